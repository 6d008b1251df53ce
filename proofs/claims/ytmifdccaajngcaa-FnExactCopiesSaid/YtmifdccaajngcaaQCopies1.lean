import Derived.Test.YtmifdccaajngcaaProg
import Derived.Below
import Derived.Deep.Draws
import Derived.Deep.AppendLies
import Derived.Maps.AppendAt
import Derived.OwnWalk
import Derived.Laws.BytesArg
import Derived.Laws.MakeOwn
import Derived.Laws.OwnMore
import Derived.Deep.OwnRows
import Derived.Tactics
import Derived.Lib.ConvBytes
import Derived.Laws.Slices
import Derived.WalkKit
import Derived.KernelRfl
import Derived.RowKit3
import Derived.Deep.LoopGhost
import Derived.Deep.QuietTactic
import Derived.BigQuiet
import Derived.WideLaws
import Derived.Deep.DeepCutAuto
import Derived.Deep.CutBlock
import Derived.Deep.RegionHeld3
import Derived.Laws.Rows
import Derived.Lib.AppendStr
import Derived.ArgAppend
import Derived.Laws.IdiomCopy
import Derived.OrdersHeld
import Derived.Laws.BitsLemmas
import Derived.RowKit
import Derived.Test.YtmifdccaajngcaaQCopiesW1
import Derived.Test.YtmifdccaajngcaaQCopiesW2
import Derived.Deep.Slices
import Derived.ChangeArms
import Derived.OpenShut
import Derived.WideShapes
import Derived.Shelf.Abstract
import Derived.Outline
import Derived.RegionTactic
set_option maxHeartbeats 8000000
set_option maxRecDepth 100000
section
namespace Go.Proofs.Ytmifdccaajngcaa.P
open Go.RowKit Go.Proofs.Oa.Rb Go.Proofs.Oa.Ee Go.Proofs.Oa.Wf
set_option linter.unusedVariables false
set_option linter.unusedSimpArgs false
attribute [local go_sem] xj uj Zk Yk ai Zh wj tj
def K7:Option Int→Value
 | none=>.nilIface
 | some c=>.iface 0 (.int .i64 c)
theorem Ja:K7 none = .nilIface:=rfl
theorem Ia (c:Int):K7 (some c) = .iface 0 (.int .i64 c):=rfl
theorem info3:(Try.prog.info? 3).map (fun i=>(i.zero,i.size,i.bytes))=some (some (.int .i64 0),1,8):=by kernel_rfl
theorem pG:(Try.prog.info? 68).map (fun i=>(i.zero,i.size,i.bytes))=some (some (.agg #[(.slice none 0 0),(.int .i64 0),(.int .i64 0),(.int .i64 0),(.int .i64 0)]),5,56):=by kernel_rfl
theorem oG:(Try.prog.info? 70).map (fun i=>(i.zero,i.size,i.bytes))=some (some (.agg #[(.int .i64 0),(.int .i64 0),(.int .i64 0),(.int .i64 0),(.int .i64 0),(.int .i64 0),(.string ⟨#[]⟩)]),7,64):=by kernel_rfl
structure S7 where
 f0:Int
 f1:Int
 f2:Bool
 f3:Int
def z7:S7:=⟨(0:Int),(0:Int),false,(0:Int)⟩
structure S8 where
 f0:Int
 f1:Int
 f2:Bool
 f3:Int
def z8:S8:=⟨(0:Int),(0:Int),false,(0:Int)⟩
structure xm where
 f0:Int
 f1:Int
 f2:Int
 f3:Int
 f4:Int
 f5:Int
 f6:ByteArray
def vZ:xm:=⟨(0:Int),(0:Int),(0:Int),(0:Int),(0:Int),(0:Int),(⟨#[]⟩:ByteArray)⟩
def jz:Kd xm:=Kd.cN (Kd.pair (Kd.int .i64) (Kd.pair (Kd.int .i64) (Kd.pair (Kd.int .i64) (Kd.pair (Kd.int .i64) (Kd.pair (Kd.int .i64) (Kd.pair (Kd.int .i64) Kd.string)))))) (fun x:xm=>(x.f0,x.f1,x.f2,x.f3,x.f4,x.f5,x.f6))
theorem kL {w:World} {x:xm} {cs:List Value} (h:jz.K w x cs):cs=[.int .i64 x.f0,.int .i64 x.f1,.int .i64 x.f2,.int .i64 x.f3,.int .i64 x.f4,.int .i64 x.f5,.string x.f6]:=by
 obtain ⟨_,_,rfl,rfl,⟨_,_,rfl,rfl,⟨_,_,rfl,rfl,⟨_,_,rfl,rfl,⟨_,_,rfl,rfl,⟨_,_,rfl,rfl,rfl⟩⟩⟩⟩⟩⟩:=h;exact rfl
def Bc (xs:List xm) (i:Int):xm:=xs.getD i.toNat vZ
theorem ID {w:World} {A:Option Addr} {n:Nat} {xs:List xm} (h:Kd.C jz w A n xs) (i:Int) (h0:0 ≤ i) (h1:i < n):∃ ad , A=some ad∧w.cell? (ad.add (i.toNat * 7))=some (.int .i64 (Bc xs i).f0)∧w.cell? ⟨(ad.add (i.toNat * 7)).block,(ad.add (i.toNat * 7)).off + 1,none⟩=some (.int .i64 (Bc xs i).f1)∧w.cell? ⟨(ad.add (i.toNat * 7)).block,(ad.add (i.toNat * 7)).off + 2,none⟩=some (.int .i64 (Bc xs i).f2)∧w.cell? ⟨(ad.add (i.toNat * 7)).block,(ad.add (i.toNat * 7)).off + 3,none⟩=some (.int .i64 (Bc xs i).f3)∧w.cell? ⟨(ad.add (i.toNat * 7)).block,(ad.add (i.toNat * 7)).off + 4,none⟩=some (.int .i64 (Bc xs i).f4)∧w.cell? ⟨(ad.add (i.toNat * 7)).block,(ad.add (i.toNat * 7)).off + 5,none⟩=some (.int .i64 (Bc xs i).f5)∧w.cell? ⟨(ad.add (i.toNat * 7)).block,(ad.add (i.toNat * 7)).off + 6,none⟩=some (.string (Bc xs i).f6):=by
 obtain ⟨ad,c,e,_,hK,hc0⟩:=Kd.XK h vZ i h0 h1;have hc:∀ j u,c[j]? = some u→w.cell? (ad.add (i.toNat * 7 + j))=some u:=hc0;obtain rfl:=kL hK;exact ⟨ad,e,hc 0 _ rfl,by rw [← Lf _ _ 1 (by omega)];exact hc 1 _ rfl,by rw [← Lf _ _ 2 (by omega)];exact hc 2 _ rfl,by rw [← Lf _ _ 3 (by omega)];exact hc 3 _ rfl,by rw [← Lf _ _ 4 (by omega)];exact hc 4 _ rfl,by rw [← Lf _ _ 5 (by omega)];exact hc 5 _ rfl,by rw [← Lf _ _ 6 (by omega)];exact hc 6 _ rfl⟩
structure Pk where
 f0:(List xm)
 f1:Int
 f2:Int
 f3:Int
 f4:Int
def wZ:Pk:=⟨([]:List xm),(0:Int),(0:Int),(0:Int),(0:Int)⟩
def kz:Kd Pk:=Kd.cN (Kd.pair (Kd.slice 161 jz) (Kd.pair (Kd.int .i64) (Kd.pair (Kd.int .i64) (Kd.pair (Kd.int .i64) (Kd.int .i64))))) (fun x:Pk=>(x.f0,x.f1,x.f2,x.f3,x.f4))
theorem mL {w:World} {x:Pk} {cs:List Value} (h:kz.K w x cs):∃ A0 c0,cs=[.slice A0 x.f0.length c0,.int .i64 x.f1,.int .i64 x.f2,.int .i64 x.f3,.int .i64 x.f4]∧x.f0.length ≤ c0∧jz.C w A0 x.f0.length x.f0:=by
 obtain ⟨_,_,rfl,⟨A0,c0,rfl,l0,g0⟩,⟨_,_,rfl,rfl,⟨_,_,rfl,rfl,⟨_,_,rfl,rfl,rfl⟩⟩⟩⟩:=h;exact ⟨A0,c0,rfl,l0,g0⟩
def zd (xs:List Pk) (i:Int):Pk:=xs.getD i.toNat wZ
theorem JD {w:World} {A:Option Addr} {n:Nat} {xs:List Pk} (h:Kd.C kz w A n xs) (i:Int) (h0:0 ≤ i) (h1:i < n):∃ ad A0 c0,A=some ad∧w.cell? (ad.add (i.toNat * 5))=some (.slice A0 (zd xs i).f0.length c0)∧w.cell? ⟨(ad.add (i.toNat * 5)).block,(ad.add (i.toNat * 5)).off + 1,none⟩=some (.int .i64 (zd xs i).f1)∧w.cell? ⟨(ad.add (i.toNat * 5)).block,(ad.add (i.toNat * 5)).off + 2,none⟩=some (.int .i64 (zd xs i).f2)∧w.cell? ⟨(ad.add (i.toNat * 5)).block,(ad.add (i.toNat * 5)).off + 3,none⟩=some (.int .i64 (zd xs i).f3)∧w.cell? ⟨(ad.add (i.toNat * 5)).block,(ad.add (i.toNat * 5)).off + 4,none⟩=some (.int .i64 (zd xs i).f4)∧(zd xs i).f0.length ≤ c0∧jz.C w A0 (zd xs i).f0.length (zd xs i).f0:=by
 obtain ⟨ad,c,e,_,hK,hc0⟩:=Kd.XK h wZ i h0 h1;have hc:∀ j u,c[j]? = some u→w.cell? (ad.add (i.toNat * 5 + j))=some u:=hc0;obtain ⟨A0,c0,rfl,l0,g0⟩:=mL hK;exact ⟨ad,A0,c0,e,hc 0 _ rfl,by rw [← Lf _ _ 1 (by omega)];exact hc 1 _ rfl,by rw [← Lf _ _ 2 (by omega)];exact hc 2 _ rfl,by rw [← Lf _ _ 3 (by omega)];exact hc 3 _ rfl,by rw [← Lf _ _ 4 (by omega)];exact hc 4 _ rfl,l0,g0⟩
structure mZ where
 f0:(List Int)
 f1:Int
 f2:Int
 f3:Int
 f4:(List Pk)
def k25:Kd mZ:=Kd.cN (Kd.pair (Kd.slice 3 (Kd.int .i64)) (Kd.pair (Kd.int .i64) (Kd.pair (Kd.int .i64) (Kd.pair (Kd.int .i64) (Kd.slice 118 kz))))) (fun x:mZ=>(x.f0,x.f1,x.f2,x.f3,x.f4))
theorem bN {w:World} {x:mZ} {cs:List Value} (h:k25.K w x cs):∃ A0 c0 A4 c4,cs=[.slice A0 x.f0.length c0,.int .i64 x.f1,.int .i64 x.f2,.int .i64 x.f3,.slice A4 x.f4.length c4]∧x.f0.length ≤ c0∧(Kd.int .i64).C w A0 x.f0.length x.f0∧x.f4.length ≤ c4∧kz.C w A4 x.f4.length x.f4:=by
 obtain ⟨_,_,rfl,⟨A0,c0,rfl,l0,g0⟩,⟨_,_,rfl,rfl,⟨_,_,rfl,rfl,⟨_,_,rfl,rfl,⟨A4,c4,rfl,l4,g4⟩⟩⟩⟩⟩:=h;exact ⟨A0,c0,A4,c4,rfl,l0,g0,l4,g4⟩
structure ee where
 f0:Int
 f1:Int
 f2:Int
 f3:Int
 f4:Int
 f5:Int
 f6:ByteArray
def Zp:ee:=⟨(0:Int),(0:Int),(0:Int),(0:Int),(0:Int),(0:Int),(⟨#[]⟩:ByteArray)⟩
def Vh:Kd ee:=Kd.cN (Kd.pair (Kd.int .i64) (Kd.pair (Kd.int .i64) (Kd.pair (Kd.int .i64) (Kd.pair (Kd.int .i64) (Kd.pair (Kd.int .i64) (Kd.pair (Kd.int .i64) Kd.string)))))) (fun x:ee=>(x.f0,x.f1,x.f2,x.f3,x.f4,x.f5,x.f6))
theorem vE {w:World} {x:ee} {cs:List Value} (h:Vh.K w x cs):cs=[.int .i64 x.f0,.int .i64 x.f1,.int .i64 x.f2,.int .i64 x.f3,.int .i64 x.f4,.int .i64 x.f5,.string x.f6]:=by
 obtain ⟨_,_,rfl,rfl,⟨_,_,rfl,rfl,⟨_,_,rfl,rfl,⟨_,_,rfl,rfl,⟨_,_,rfl,rfl,⟨_,_,rfl,rfl,rfl⟩⟩⟩⟩⟩⟩:=h;exact rfl
theorem Qg {w:World} {base:Nat} {ok:Nat→Prop} {x:ee} {cs:List Value} (h:Vh.M w base ok x cs):cs=[.int .i64 x.f0,.int .i64 x.f1,.int .i64 x.f2,.int .i64 x.f3,.int .i64 x.f4,.int .i64 x.f5,.string x.f6]:=by
 obtain ⟨_,_,rfl,rfl,⟨_,_,rfl,rfl,⟨_,_,rfl,rfl,⟨_,_,rfl,rfl,⟨_,_,rfl,rfl,⟨_,_,rfl,rfl,rfl⟩⟩⟩⟩⟩⟩:=h;exact rfl
theorem fl (w:World) (base:Nat) (ok:Nat→Prop) (x:ee)  : Vh.M w base ok x [.int .i64 x.f0,.int .i64 x.f1,.int .i64 x.f2,.int .i64 x.f3,.int .i64 x.f4,.int .i64 x.f5,.string x.f6]:=⟨[.int .i64 x.f0],[.int .i64 x.f1,.int .i64 x.f2,.int .i64 x.f3,.int .i64 x.f4,.int .i64 x.f5,.string x.f6],rfl,rfl,⟨[.int .i64 x.f1],[.int .i64 x.f2,.int .i64 x.f3,.int .i64 x.f4,.int .i64 x.f5,.string x.f6],rfl,rfl,⟨[.int .i64 x.f2],[.int .i64 x.f3,.int .i64 x.f4,.int .i64 x.f5,.string x.f6],rfl,rfl,⟨[.int .i64 x.f3],[.int .i64 x.f4,.int .i64 x.f5,.string x.f6],rfl,rfl,⟨[.int .i64 x.f4],[.int .i64 x.f5,.string x.f6],rfl,rfl,⟨[.int .i64 x.f5],[.string x.f6],rfl,rfl,rfl⟩⟩⟩⟩⟩⟩
def Fa (xs:List ee) (i:Int):ee:=xs.getD i.toNat Zp
theorem Re {w:World} {A:Option Addr} {n:Nat} {xs:List ee} (h:Kd.C Vh w A n xs) (i:Int) (h0:0 ≤ i) (h1:i < n):∃ ad , A=some ad∧w.cell? (ad.add (i.toNat * 7))=some (.int .i64 (Fa xs i).f0)∧w.cell? ⟨(ad.add (i.toNat * 7)).block,(ad.add (i.toNat * 7)).off + 1,none⟩=some (.int .i64 (Fa xs i).f1)∧w.cell? ⟨(ad.add (i.toNat * 7)).block,(ad.add (i.toNat * 7)).off + 2,none⟩=some (.int .i64 (Fa xs i).f2)∧w.cell? ⟨(ad.add (i.toNat * 7)).block,(ad.add (i.toNat * 7)).off + 3,none⟩=some (.int .i64 (Fa xs i).f3)∧w.cell? ⟨(ad.add (i.toNat * 7)).block,(ad.add (i.toNat * 7)).off + 4,none⟩=some (.int .i64 (Fa xs i).f4)∧w.cell? ⟨(ad.add (i.toNat * 7)).block,(ad.add (i.toNat * 7)).off + 5,none⟩=some (.int .i64 (Fa xs i).f5)∧w.cell? ⟨(ad.add (i.toNat * 7)).block,(ad.add (i.toNat * 7)).off + 6,none⟩=some (.string (Fa xs i).f6):=by
 obtain ⟨ad,c,e,_,hK,hc0⟩:=Kd.XK h Zp i h0 h1;have hc:∀ j u,c[j]? = some u→w.cell? (ad.add (i.toNat * 7 + j))=some u:=hc0;obtain rfl:=vE hK;exact ⟨ad,e,hc 0 _ rfl,by rw [← Lf _ _ 1 (by omega)];exact hc 1 _ rfl,by rw [← Lf _ _ 2 (by omega)];exact hc 2 _ rfl,by rw [← Lf _ _ 3 (by omega)];exact hc 3 _ rfl,by rw [← Lf _ _ 4 (by omega)];exact hc 4 _ rfl,by rw [← Lf _ _ 5 (by omega)];exact hc 5 _ rfl,by rw [← Lf _ _ 6 (by omega)];exact hc 6 _ rfl⟩
structure Te where
 f0:(List ee)
 f1:Int
 f2:Int
 f3:Int
 f4:Int
def cA:Te:=⟨([]:List ee),(0:Int),(0:Int),(0:Int),(0:Int)⟩
def Tk:Kd Te:=Kd.cN (Kd.pair (Kd.slice 70 Vh) (Kd.pair (Kd.int .i64) (Kd.pair (Kd.int .i64) (Kd.pair (Kd.int .i64) (Kd.int .i64))))) (fun x:Te=>(x.f0,x.f1,x.f2,x.f3,x.f4))
theorem aN {w:World} {x:Te} {cs:List Value} (h:Tk.K w x cs):∃ A0 c0,cs=[.slice A0 x.f0.length c0,.int .i64 x.f1,.int .i64 x.f2,.int .i64 x.f3,.int .i64 x.f4]∧x.f0.length ≤ c0∧Vh.C w A0 x.f0.length x.f0:=by
 obtain ⟨_,_,rfl,⟨A0,c0,rfl,l0,g0⟩,⟨_,_,rfl,rfl,⟨_,_,rfl,rfl,⟨_,_,rfl,rfl,rfl⟩⟩⟩⟩:=h;exact ⟨A0,c0,rfl,l0,g0⟩
theorem Co {w:World} {base:Nat} {ok:Nat→Prop} {x:Te} {cs:List Value} (h:Tk.M w base ok x cs):∃ v0,cs=[v0,.int .i64 x.f1,.int .i64 x.f2,.int .i64 x.f3,.int .i64 x.f4]∧Vh.R 70 w base ok v0 x.f0:=by
 obtain ⟨_,_,rfl,⟨v0,rfl,g0⟩,⟨_,_,rfl,rfl,⟨_,_,rfl,rfl,⟨_,_,rfl,rfl,rfl⟩⟩⟩⟩:=h;exact ⟨v0,rfl,g0⟩
theorem Em (w:World) (base:Nat) (ok:Nat→Prop) (x:Te) {v0:Value} (g0:Vh.R 70 w base ok v0 x.f0):Tk.M w base ok x [v0,.int .i64 x.f1,.int .i64 x.f2,.int .i64 x.f3,.int .i64 x.f4]:=⟨[v0],[.int .i64 x.f1,.int .i64 x.f2,.int .i64 x.f3,.int .i64 x.f4],rfl,⟨v0,rfl,g0⟩,⟨[.int .i64 x.f1],[.int .i64 x.f2,.int .i64 x.f3,.int .i64 x.f4],rfl,rfl,⟨[.int .i64 x.f2],[.int .i64 x.f3,.int .i64 x.f4],rfl,rfl,⟨[.int .i64 x.f3],[.int .i64 x.f4],rfl,rfl,rfl⟩⟩⟩⟩
def Ka (xs:List Te) (i:Int):Te:=xs.getD i.toNat cA
theorem Zf {w:World} {A:Option Addr} {n:Nat} {xs:List Te} (h:Kd.C Tk w A n xs) (i:Int) (h0:0 ≤ i) (h1:i < n):∃ ad A0 c0,A=some ad∧w.cell? (ad.add (i.toNat * 5))=some (.slice A0 (Ka xs i).f0.length c0)∧w.cell? ⟨(ad.add (i.toNat * 5)).block,(ad.add (i.toNat * 5)).off + 1,none⟩=some (.int .i64 (Ka xs i).f1)∧w.cell? ⟨(ad.add (i.toNat * 5)).block,(ad.add (i.toNat * 5)).off + 2,none⟩=some (.int .i64 (Ka xs i).f2)∧w.cell? ⟨(ad.add (i.toNat * 5)).block,(ad.add (i.toNat * 5)).off + 3,none⟩=some (.int .i64 (Ka xs i).f3)∧w.cell? ⟨(ad.add (i.toNat * 5)).block,(ad.add (i.toNat * 5)).off + 4,none⟩=some (.int .i64 (Ka xs i).f4)∧(Ka xs i).f0.length ≤ c0∧Vh.C w A0 (Ka xs i).f0.length (Ka xs i).f0:=by
 obtain ⟨ad,c,e,_,hK,hc0⟩:=Kd.XK h cA i h0 h1;have hc:∀ j u,c[j]? = some u→w.cell? (ad.add (i.toNat * 5 + j))=some u:=hc0;obtain ⟨A0,c0,rfl,l0,g0⟩:=aN hK;exact ⟨ad,A0,c0,e,hc 0 _ rfl,by rw [← Lf _ _ 1 (by omega)];exact hc 1 _ rfl,by rw [← Lf _ _ 2 (by omega)];exact hc 2 _ rfl,by rw [← Lf _ _ 3 (by omega)];exact hc 3 _ rfl,by rw [← Lf _ _ 4 (by omega)];exact hc 4 _ rfl,l0,g0⟩
structure oV where
 f0:Int
 f1:Int
def k79:Kd oV:=Kd.cN (Kd.pair (Kd.int .i64) (Kd.int .i64)) (fun x:oV=>(x.f0,x.f1))
structure S78 where
 f0:Int
 f1:Int
def z78:S78:=⟨(0:Int),(0:Int)⟩
structure QL where
 f0:Int
 f1:Int
 f2:Int
 f3:ByteArray
 f4:(List QL)
def XY (d:Kd QL):Kd QL:=Kd.cN (Kd.pair (Kd.int .i64) (Kd.pair (Kd.int .i64) (Kd.pair (Kd.int .i64) (Kd.pair Kd.string (Kd.slice 172 d))))) (fun x:QL=>(x.f0,x.f1,x.f2,x.f3,x.f4))
theorem oW:Kd.Sub XY [172]:=Kd.OH _ (Kd.Xk (Kd.sub_const _ (by decide)) (Kd.Xk (Kd.sub_const _ (by decide)) (Kd.Xk (Kd.sub_const _ (by decide)) (Kd.Xk (Kd.sub_const _ (by decide)) (Kd.uw 172 (by decide) Kd.aG)))))
theorem EZ:∀ n,(Kd.upto XY 5 [172] n).sz=5:=Kd.MH (fun _=>rfl)
def uag:Kd QL:=Kd.fix XY 5 [172] EZ (Kd.VF oW)
structure Sw where
 f0:Int
 f1:Int
 f2:Int
 f3:(List QL)
 f4:(List Sw)
 f5:(List Sw)
def YY (d:Kd Sw):Kd Sw:=Kd.cN (Kd.pair (Kd.int .i64) (Kd.pair (Kd.int .i64) (Kd.pair (Kd.int .i64) (Kd.pair (Kd.slice 172 uag) (Kd.pair (Kd.slice 168 d) (Kd.slice 168 d)))))) (fun x:Sw=>(x.f0,x.f1,x.f2,x.f3,x.f4,x.f5))
theorem pW:Kd.Sub YY [168,172]:=Kd.OH _ (Kd.Xk (Kd.sub_const _ (by decide)) (Kd.Xk (Kd.sub_const _ (by decide)) (Kd.Xk (Kd.sub_const _ (by decide)) (Kd.Xk (Kd.sub_const _ (by decide)) (Kd.Xk (Kd.uw 168 (by decide) Kd.aG) (Kd.uw 168 (by decide) Kd.aG))))))
theorem FZ:∀ n,(Kd.upto YY 6 [168,172] n).sz=6:=Kd.MH (fun _=>rfl)
def vag:Kd Sw:=Kd.fix YY 6 [168,172] FZ (Kd.VF pW)
theorem NM {α:Type} {d:Kd α} {e:Nat} {w:World} {base:Nat} {ok:Nat→Prop} {v:Value} {xs:List α} (h:ia (d.R e w base ok v xs)):v.oneCell' = true:=by
 obtain ⟨A,c,rfl⟩:=Kd.lf h.out
 rfl
theorem MM {α:Type} {d:Kd α} {e:Nat} {w:World} {base:Nat} {ok:Nat→Prop} {v:Value} {xs:List α} (h:ia (d.S e w base ok v xs)):v.oneCell' = true:=by
 obtain ⟨A,c,rfl⟩:=Kd.lf (Kd.yQ h.out)
 rfl
theorem PM {α:Type} {d:Kd α} {e:Nat} {w:World} {base:Nat} {ok:Nat→Prop} {v:Value} {xs:List α} (h:ia (Kd.N d e w base ok v xs)):v.oneCell' = true:=by
 obtain ⟨A,c,rfl⟩:=Kd.NT h.out
 rfl
theorem OM {α:Type} {d:Kd α} {e:Nat} {w:World} {base:Nat} {ok:Nat→Prop} {v:Value} {xs:List α} (h:ia (d.Q e w base ok v xs)):v.oneCell' = true:=by
 obtain ⟨A,c,rfl,_⟩:=Kd.MT h.out
 rfl
def ym (P:Program) (t:TypeId) {α:Type} (d:Kd α) (fit:α→Prop):Prop :=
 ∀ {H:Type} {enc:TypeId × Value→H} {w:World} {base:Nat} {spare:Nat→Bool} {held:Bool} {fuel:Nat} {cs:List Value} {x:DataW H × List MemPlace},
  DataW.trod enc P w base spare held fuel t cs=some x→∃ a:α,d.K w a cs∧fit a
theorem fL {P:Program} {t:TypeId} {k:IntKind} (ht:P.underlying t=some (.int k)):ym P t (Kd.int k) (fun n=>(Lit.int k n).wf=true):=by
 intro H enc w base spare held fuel cs x h;obtain ⟨n,rfl,_,hw⟩:=DataW.trod_int ht h;exact ⟨n,rfl,hw⟩
def Sp (n:Int):Prop:=-9223372036854775808 ≤ n∧n ≤ 9223372036854775807
theorem wf_i64 {n:Int} (h:(Lit.int .i64 n).wf=true):Sp n:=by
 simp [Lit.wf,IntKind.min,IntKind.max,IntKind.signed,IntKind.bits] at h;unfold Sp;omega
theorem fh {P:Program} {t:TypeId} (ht:P.underlying t=some (.int .i64)):ym P t (Kd.int .i64) Sp:=by
 intro H enc w base spare held fuel cs x h;obtain ⟨n,h1,h2⟩:=fL ht h;exact ⟨n,h1,wf_i64 h2⟩
theorem fB {P:Program} {t:TypeId} (ht:P.underlying t=some .string):ym P t Kd.string (fun s=>s.size ≤ 9223372036854775807):=by
 intro H enc w base spare held fuel cs x h;obtain ⟨s,rfl,_,hw⟩:=DataW.trod_string ht h;exact ⟨s,rfl,by simpa [maxLen] using hw⟩
theorem cx {α:Type} {p:Nat→α→Prop}:∀ n,(∀ i,i < n→∃ a,p i a)→∃ xs:List α,xs.length=n∧∀ (i:Nat) (a:α),xs[i]? = some a→p i a
 | 0,_=>⟨[],rfl,fun i a h=>by simp at h⟩
 | n + 1,h=>by
  obtain ⟨xs,hl,hx⟩:=cx n (fun i hi=>h i (by omega));obtain ⟨a,ha⟩:=h n (by omega);refine ⟨xs ++ [a],by simp [hl],fun i b hb=>?_⟩
  rcases Nat.lt_or_ge i xs.length with hi|hi
  ·rw [List.getElem?_append_left hi] at hb;exact hx i b hb
  ·have:i=n:=by
    have:=(List.getElem?_eq_some_iff.1 hb).1;simp [hl] at this;omega
   subst this;rw [List.getElem?_append_right hi,hl] at hb;simp at hb;exact hb ▸ ha
theorem aq {P:Program} {t e e':TypeId} {α:Type} {d:Kd α} {fit:α→Prop} (ht:P.underlying t=some (.slice e)) (hs:P.cellsOf e=d.sz) (h:ym P e d fit):ym P t (Kd.slice e' d) (fun l=>l.length ≤ 9223372036854775807∧∀ a ∈ l,fit a):=by
 intro H enc w base spare held fuel cs x hx
 rcases Go.Deep.open_slice ht hx with ⟨rfl,_⟩|⟨a,len,cap,m,n,D,Pl,rfl,hb,hl,hm,hmm,_,hel⟩
 ·exact ⟨[],⟨none,0,rfl,Nat.le_refl _,rfl,by simp,fun hp=>absurd hp (by simp)⟩,by simp,by simp⟩
 ·have hle:len ≤ m:=by rw [hmm];split <;> omega
  have G1:len ≤ 9223372036854775807:=by simp only [maxLen] at hm;omega
  obtain ⟨xs,hxl,hxs⟩:=cx (α:=α) (p:=fun i y=>∃ c,c.length=d.sz∧d.K w y c∧(∀ j u,c[j]? = some u→w.cell? (a.add (i * d.sz + j))=some u)∧fit y) len (fun i hi=>by
   obtain ⟨cs',h1,h2⟩:=hel i (by omega);obtain ⟨y,hy,hf⟩:=h h2;obtain ⟨_,eM,Ht⟩:=World.cells?_some h1;refine ⟨y,cs',by rw [eM,hs],hy,fun j u hu=>?_,hf⟩;have hj:j < P.cellsOf e:=by rw [← eM];exact (List.getElem?_eq_some_iff.1 hu).1
   rw [← hs,← Go.Deep.add_add,Ht j hj]
   exact hu)
  refine ⟨xs,⟨some a,cap,by rw [hxl],by omega,rfl,by omega,fun _=>⟨a,rfl,fun j p hj=>?_⟩⟩,by omega,fun y hy=>?_⟩
  ·obtain ⟨c,h1,h2,h3,_⟩:=hxs j p hj;exact ⟨c,h1,h2,h3⟩
  ·obtain ⟨i,hi,rfl⟩:=List.getElem_of_mem hy;obtain ⟨c,_,_,_,h4⟩:=hxs i _ (List.getElem?_eq_getElem hi);exact h4
def PD (P:Program) (fs:List Field) (off:Nat) {α:Type} (d:Kd α) (fit:α→Prop):Prop :=
 ∀ {H:Type} {enc:TypeId × Value→H} {w:World} {base:Nat} {spare:Nat→Bool} {held:Bool} {n:Nat} {cs:List Value},
  (∀ f ∈ fs,∃ y,DataW.trod enc P w base spare held n f.type ((cs.drop f.offset).take (P.cellsOf f.type))=some y)→cs.length=off + d.sz→∃ a:α,d.K w a (cs.drop off)∧fit a
theorem nt {P:Program} {f:Field} {off:Nat} {α:Type} {d:Kd α} {fit:α→Prop} (ho:f.offset=off) (hs:P.cellsOf f.type=d.sz) (h:ym P f.type d fit):PD P [f] off d fit:=by
 intro H enc w base spare held n cs hf hl;obtain ⟨y,hy⟩:=hf f (by simp);rw [ho,hs,List.take_of_length_le (by rw [List.length_drop];omega)] at hy;exact h hy
theorem bg {P:Program} {f:Field} {fs:List Field} {off off2:Nat} {α β:Type} {d:Kd α} {d2:Kd β} {fit:α→Prop} {J7:β→Prop} (ho:f.offset=off) (hs:P.cellsOf f.type=d.sz) (rU:off2=off + d.sz) (h:ym P f.type d fit) (h2:PD P fs off2 d2 J7):PD P (f :: fs) off (Kd.pair d d2) (fun p=>fit p.1∧J7 p.2):=by
 intro H enc w base spare held n cs hf hl;have hl':cs.length=off + (d.sz + d2.sz):=hl;obtain ⟨y,hy⟩:=hf f (by simp);rw [ho,hs] at hy;obtain ⟨a,ha,fa⟩:=h hy;obtain ⟨b,hb,fb⟩:=h2 (fun g hg=>hf g (List.mem_cons_of_mem _ hg)) (by omega);refine ⟨(a,b),⟨(cs.drop off).take d.sz,cs.drop off2,?_,ha,hb⟩,fa,fb⟩;rw [rU,← List.drop_drop,List.take_append_drop]
theorem Ro {P:Program} {t:TypeId} {fs:Array Field} {α:Type} {d:Kd α} {fit:α→Prop} (ht:P.underlying t=some (.struct fs)) (hs:P.cellsOf t=d.sz) (h:PD P fs.toList 0 d fit):ym P t d fit:=by
 intro H enc w base spare held fuel cs x hx;obtain ⟨xs,n,_,_,hl,hxl,hf⟩:=DataW.trod_struct ht hx
 have:=h (w:=w) (enc:=enc) (base:=base) (spare:=spare) (held:=held) (n:=n) (cs:=cs) (fun f hfm=>by
  obtain ⟨i,hi,rfl⟩:=List.getElem_of_mem hfm;have hi':i < fs.size:=by simpa using hi
  have h1:=hf i (fs.toList[i]) (by simp [hi']);rw [List.getElem?_eq_getElem (by omega)] at h1
  exact ⟨_,h1⟩) (by omega)
 simpa using this
theorem yw {P:Program} {t:TypeId} {α β:Type} {d:Kd α} {fit:α→Prop} {g:β→α} (gi:α→β) (hg:∀ a,g (gi a)=a) (h:ym P t d fit):ym P t (Kd.cN d g) (fun b=>fit (g b)):=by
 intro H enc w base spare held fuel cs x hx;obtain ⟨a,ha,hf⟩:=h hx;refine ⟨gi a,?_,?_⟩
 ·show d.K w (g (gi a)) cs
  rw [hg];exact ha
 ·show fit (g (gi a))
  rw [hg];exact hf
theorem LM {P:Program} {t:TypeId} {fs:Array Field} {α:Type} {d:Kd α} {fit:α→Prop} {r:Reach} {b0:Nat} {H:Type} {enc:TypeId × Value→H} {w:World} {base:Nat} {spare:Nat→Bool} {held:Bool} {v:Value} {dt:DataW H} {p:List MemPlace}
  (ht:P.underlying t=some (.struct fs)) (h:ym P t d fit) (hv:Value.okWide P w r b0 t v) (hd:DataW.Trod enc P w base spare held t v dt p) :
  ∃ (a:α) (cs:Array Value),v = .agg cs∧d.K w a cs.toList∧fit a:=by
 obtain ⟨cs,rfl,hsz⟩:=Go.WideShapes.okWide_struct ht hv;obtain ⟨fuel,hf⟩:=hd;obtain ⟨a,ha,hfa⟩:=h hf;exact ⟨a,cs,rfl,by simpa [Value.cells] using ha,hfa⟩
theorem WQ:ym Try.prog 22 (Kd.slice 3 (Kd.int .i64)) (fun l=>l.length ≤ 9223372036854775807∧∀ a ∈ l,Sp a):=aq Try.underlying22 (by kernel_rfl) (fh Try.underlying3)
def LG (x:xm):Prop:=Sp x.f0∧Sp x.f1∧Sp x.f2∧Sp x.f3∧Sp x.f4∧Sp x.f5∧(fun s=>s.size ≤ 9223372036854775807) x.f6
theorem IM:ym Try.prog 161 jz LG:=yw (fun p=>⟨p.1,p.2.1,p.2.2.1,p.2.2.2.1,p.2.2.2.2.1,p.2.2.2.2.2.1,p.2.2.2.2.2.2⟩) (fun _=>rfl) (Ro Try.underlying161 (by kernel_rfl) (bg rfl (by kernel_rfl) (by kernel_rfl) (fh Try.underlying3) (bg rfl (by kernel_rfl) (by kernel_rfl) (fh Try.underlying3) (bg rfl (by kernel_rfl) (by kernel_rfl) (fh Try.underlying3) (bg rfl (by kernel_rfl) (by kernel_rfl) (fh Try.underlying3) (bg rfl (by kernel_rfl) (by kernel_rfl) (fh Try.underlying3) (bg rfl (by kernel_rfl) (by kernel_rfl) (fh Try.underlying3) (nt rfl (by kernel_rfl) (fB Try.underlying9)))))))))
theorem KM:ym Try.prog 116 (Kd.slice 161 jz) (fun l=>l.length ≤ 9223372036854775807∧∀ a ∈ l,LG a):=aq Try.underlying116 (by kernel_rfl) IM
def MG (x:Pk):Prop:=(fun l=>l.length ≤ 9223372036854775807∧∀ a ∈ l,LG a) x.f0∧Sp x.f1∧Sp x.f2∧Sp x.f3∧Sp x.f4
theorem JM:ym Try.prog 118 kz MG:=yw (fun p=>⟨p.1,p.2.1,p.2.2.1,p.2.2.2.1,p.2.2.2.2⟩) (fun _=>rfl) (Ro Try.underlying118 (by kernel_rfl) (bg rfl (by kernel_rfl) (by kernel_rfl) KM (bg rfl (by kernel_rfl) (by kernel_rfl) (fh Try.underlying3) (bg rfl (by kernel_rfl) (by kernel_rfl) (fh Try.underlying3) (bg rfl (by kernel_rfl) (by kernel_rfl) (fh Try.underlying3) (nt rfl (by kernel_rfl) (fh Try.underlying3)))))))
theorem VQ:ym Try.prog 23 (Kd.slice 118 kz) (fun l=>l.length ≤ 9223372036854775807∧∀ a ∈ l,MG a):=aq Try.underlying23 (by kernel_rfl) JM
def YN (x:mZ):Prop:=(fun l=>l.length ≤ 9223372036854775807∧∀ a ∈ l,Sp a) x.f0∧Sp x.f1∧Sp x.f2∧Sp x.f3∧(fun l=>l.length ≤ 9223372036854775807∧∀ a ∈ l,MG a) x.f4
theorem UQ:ym Try.prog 25 k25 YN:=yw (fun p=>⟨p.1,p.2.1,p.2.2.1,p.2.2.2.1,p.2.2.2.2⟩) (fun _=>rfl) (Ro Try.underlying25 (by kernel_rfl) (bg rfl (by kernel_rfl) (by kernel_rfl) WQ (bg rfl (by kernel_rfl) (by kernel_rfl) (fh Try.underlying3) (bg rfl (by kernel_rfl) (by kernel_rfl) (fh Try.underlying3) (bg rfl (by kernel_rfl) (by kernel_rfl) (fh Try.underlying3) (nt rfl (by kernel_rfl) VQ))))))
def mh.f (a0:Int) (a1:Int) (a2:Int):Option (Bool):=if a0 ≥ a1 then (some (decide (a0 ≤ a2))) else (some false)
theorem mh.calls (a0:Int) (a1:Int) (a2:Int) (r:Bool) (w:World) (h:mh.f a0 a1 a2=some r) :
  Calls Try.prog 58 #[.int .i64 a0,.int .i64 a1,.int .i64 a2] w fun e w'=>e = .returned (.bool r)∧Xc w w':=by
 have H:(if a0 ≥ a1 then (some (decide (a0 ≤ a2))) else (some false))=some r:=h;clear h
 by_cases c4:a0 ≥ a1
 ·rw [if_pos c4] at H;have jk:decide (a1 ≤ a0)=true:=decide_eq_true c4;clear c4;obtain rfl:=Option.some.inj H;go_enter Try.func58,Try.ntmps58;go_wp2;go_ret;exact ⟨by first|rfl|(simp;done)|(simp [*];done),by repeat (first|exact Xc.refl _|apply Xc.step)⟩
 ·rw [if_neg c4] at H;have jk:decide (a1 ≤ a0)=false:=decide_eq_false c4;clear c4;obtain rfl:=Option.some.inj H;go_enter Try.func58,Try.ntmps58;go_wp2;go_ret;exact ⟨by first|rfl|(simp;done)|(simp [*];done),by repeat (first|exact Xc.refl _|apply Xc.step)⟩
theorem mV {W w1:World} (hb:Below W.heap.size W w1):(∀ b o,b < W.heap.size→w1.cell? ⟨b,o,none⟩=W.cell? ⟨b,o,none⟩)∧(∀ b o,b < W.heap.size→w1.frozen? ⟨b,o,none⟩=W.frozen? ⟨b,o,none⟩) :=
 ⟨fun b o h=>hb.cell (p:=⟨b,o,none⟩) h,fun b o h=>hb.frozen (p:=⟨b,o,none⟩) h⟩
theorem Ss {α:Type} {l:List α} {p:α→Bool} {k:Nat} {d:α} (hk:k < l.length) (h:(l.take k).any p=false) (hx:p (l.getD k d)=false):(l.take (k + 1)).any p=false:=by
 rw [List.take_succ_eq_append_getElem hk,List.any_append,h]
 simpa [List.getD_eq_getElem?_getD,List.getElem?_eq_getElem hk] using hx
theorem xK {α:Type} {l:List α} {p:α→Bool} {k:Nat} {d:α} (hk:k < l.length) (hx:p (l.getD k d)=true):l.any p=true:=by
 rw [List.any_eq_true];exact ⟨l[k],List.getElem_mem hk,by simpa [List.getD_eq_getElem?_getD,List.getElem?_eq_getElem hk] using hx⟩
theorem tA (g:Nat) (lb:Array Value) (p:ee→Bool) (eg:∀ args w,(callFunc g args).run Try.prog w = .ok (.enter g args) w) (A0:Option Addr) (c0:Nat) (l0:List ee) (w:World) (zk:Kd.C Vh w A0 l0.length l0) (hc0:l0.length ≤ c0)
  (hp:∀ (W:World) (x:ee),Below w.heap.size w W→Calls Try.prog g (#[(.agg #[.int .i64 x.f0,.int .i64 x.f1,.int .i64 x.f2,.int .i64 x.f3,.int .i64 x.f4,.int .i64 x.f5,.string x.f6])] ++ lb) W fun e w'=>e = .returned (.bool (p x))∧Below W.heap.size W w') :
  Calls Try.prog 124 #[.slice A0 l0.length c0,.func (.func g) #[] lb] w fun e w'=>(∃ i:Int,e = .returned (.int .i64 i)∧decide (0 ≤ i)=l0.any p)∧Below w.heap.size w w':=by
 have G1:=zk.2.1;have Zg:=ia.mk zk;have cE:=ia.mk hc0;have HP:=ia.mk hp;clear zk hc0 hp;go_enter Try.func124,Try.ntmps124;go_wp2
 go_loopg [5,8] l0.length (fun gg _ s8 wr=>∃ kk:Nat,kk ≤ l0.length∧l0.length - kk ≤ gg∧s8 = .int .i64 kk∧ia (Below w.heap.size w wr)∧ia ((l0.take kk).any p=false))
 case atStart=>exact ⟨0,Nat.zero_le _,by omega,rfl,⟨Below.refl _ w⟩,⟨by simp⟩⟩
 case round =>
  (try clear BW);(try clear HA);obtain ⟨kk,hkk,hg,rfl,BW,HA⟩:=hrel
  by_cases hlt:kk < l0.length
  ·have p1:0 ≤ (kk:Int):=by omega
   have q1:(kk:Int) < (l0.length:Int):=by omega
   obtain ⟨ad,e1,hx0,hx1,mj,Ni,kj,rm,qm⟩:=Re Zg.out (kk:Int) p1 q1;cases e1;simp only [Int.toNat_natCast] at hx0 hx1 mj Ni kj rm qm;replace hx0:=(BW.out.cell (World.block_lt_of_cell? w _ hx0)).trans hx0;replace hx1:=(BW.out.cell (World.block_lt_of_cell? w _ hx1)).trans hx1;replace mj:=(BW.out.cell (World.block_lt_of_cell? w _ mj)).trans mj;replace Ni:=(BW.out.cell (World.block_lt_of_cell? w _ Ni)).trans Ni;replace kj:=(BW.out.cell (World.block_lt_of_cell? w _ kj)).trans kj;replace rm:=(BW.out.cell (World.block_lt_of_cell? w _ rm)).trans rm;replace qm:=(BW.out.cell (World.block_lt_of_cell? w _ qm)).trans qm;have Zv:=HP.out wr (Fa l0 (kk:Int)) BW.out;cases hq:p (Fa l0 (kk:Int)) with
   | true =>
    rw [hq] at Zv;go_wp2_with (go_at_fn g;refine Zv.mono ?_;rintro e w1 ⟨rfl,Xp⟩);go_ret;exact ⟨⟨_,rfl,by rw [xK (d:=Zp) hlt hq];simp⟩,BW.out.trans (Xp.mono BW.out.size)⟩
   | false =>
    rw [hq] at Zv;go_wp2_with (go_at_fn g;refine Zv.mono ?_;rintro e w1 ⟨rfl,Xp⟩)
    go_roundg (l0.length - (kk + 1))
    case measure=>omega
    case rel=>exact ⟨kk + 1,by omega,by omega,by go_num,⟨BW.out.trans (Xp.mono BW.out.size)⟩,⟨Ss (d:=Zp) hlt HA.out hq⟩⟩
  ·have iah:¬ (kk:Int) < (l0.length:Int):=by omega
   have he:kk=l0.length:=by omega
   subst he;go_wp2;go_ret;exact ⟨⟨_,rfl,by have h_:=HA.out;rw [List.take_length] at h_;rw [h_];simp⟩,BW.out⟩
theorem Jt (g:Nat) (lb:Array Value) (p:ee→Bool) (eg:∀ args w,(callFunc g args).run Try.prog w = .ok (.enter g args) w) (A0:Option Addr) (c0:Nat) (l0:List ee) (w:World) (zk:Kd.C Vh w A0 l0.length l0) (hc0:l0.length ≤ c0)
  (hp:∀ (W:World) (x:ee),Below w.heap.size w W→Calls Try.prog g (#[(.agg #[.int .i64 x.f0,.int .i64 x.f1,.int .i64 x.f2,.int .i64 x.f3,.int .i64 x.f4,.int .i64 x.f5,.string x.f6])] ++ lb) W fun e w'=>e = .returned (.bool (p x))∧Below W.heap.size W w') :
  Calls Try.prog 116 #[.slice A0 l0.length c0,.func (.func g) #[] lb] w fun e w'=>e = .returned (.bool (l0.any p))∧Below w.heap.size w w':=by
 have HI:=ia.mk (tA g lb p eg A0 c0 l0 w zk hc0 hp);clear zk hc0 hp;go_enter Try.func116,Try.ntmps116;go_wp2_with (go_at_call 124;refine HI.out.mono ?_;rintro e w1 ⟨⟨i,rfl,hi⟩,Xp⟩;have HD:=ia.mk hi;clear hi);go_ret;exact ⟨by rw [← HD.out];first|rfl|simp,Xp⟩
def yb.l0:Nat→List ByteArray→ByteArray→Int→Int→Option (Int)
 | 0,_,_,_,_=>none
 | k + 1,x0,x1,x7,x8=>if x8 < x7 then (if 0 ≤ x8 then (if x8 < (x0.length:Int) then (if x1.toList=(Mk ByteArray.empty x0 x8).toList then (some x8) else (yb.l0 k x0 x1 x7 (wrap64 (x8 + 1)))) else (none)) else (none)) else (some (-1))
def yb.f (k:Nat) (l0:List ByteArray) (a1:ByteArray):Option (Int):=yb.l0 k l0 a1 (l0.length:Int) 0
theorem yb.XM:∀ k,(∀ y0 y1 y2 y3,Zm (yb.l0 k y0 y1 y2 y3) (yb.l0 (k + 1) y0 y1 y2 y3))
 | 0=>fun _ _ _ _ r h=>by simp [yb.l0] at h
 | k + 1=>by
  have NZ:=yb.XM k
  ·intro y0 y1 y2 y3;unfold yb.l0
   repeat' first
   | (with_reducible exact NZ _ _ _ _)
   | (with_reducible exact Zm.refl _)
   | (with_reducible exact Zm.none _)
   | (with_reducible refine Zm.ite ?_ ?_)
   | (with_reducible refine Zm.bind ?_ (fun _=>?_))
   | exact NZ _ _ _ _
   | exact Zm.none _
   | refine Zm.ite ?_ ?_
   | refine Zm.bind ?_ (fun _=>?_)
theorem yb.mono:∀ a0 a1 k,Zm (yb.f k a0 a1) (yb.f (k + 1) a0 a1):=by
 intro a0 a1 k;have NZ:=yb.XM k;unfold yb.f
 repeat' first
   | (with_reducible exact NZ _ _ _ _)
   | (with_reducible exact Zm.refl _)
   | (with_reducible exact Zm.none _)
   | (with_reducible refine Zm.ite ?_ ?_)
   | (with_reducible refine Zm.bind ?_ (fun _=>?_))
   | exact NZ _ _ _ _
   | exact Zm.none _
   | refine Zm.ite ?_ ?_
   | refine Zm.bind ?_ (fun _=>?_)
theorem yb.calls (k:Nat) (A0:Option Addr) (c0:Nat) (l0:List ByteArray) (a1:ByteArray) (r:Int) (w:World) (zk:Kd.C Kd.string w A0 l0.length l0) (hc0:l0.length ≤ c0) (h:yb.f k l0 a1=some r) :
  Calls Try.prog 141 #[.slice A0 l0.length c0,.string a1] w fun e w'=>e = .returned (.int .i64 r)∧Xc w w':=by
 have Zg:=ia.mk zk;have cE:=ia.mk hc0;clear zk hc0;have H:(yb.l0 k l0 a1 (l0.length:Int) 0)=some r:=h;clear h;have H':=ia.mk H;clear H;go_enter Try.func141,Try.ntmps141;go_wp2
 go_loopg [8] k (fun kq v8 w'=>∃ (sn:Int),v8 = .int .i64 sn∧ia (yb.l0 kq l0 a1 (l0.length:Int) sn=some r)∧ia (kq ≤ k)∧Xc w w')
 case atStart=>exact ⟨(0),(by first|rfl|(simp;done)|(simp [*];done)),H',⟨Nat.le_refl _⟩,by repeat (first|exact Xc.refl _|apply Xc.step)⟩
 case round =>
  clear H'
  try clear c1
  try clear p2
  (try clear HA);(try clear Kh);obtain ⟨sn,rfl,HA,Kh,⟨m1,rfl⟩⟩:=hrel;cases gk with
  | zero=>exact absurd HA.out (by simp [yb.l0])
  | succ k1 =>
   have H:=HA.out;clear HA;simp only [yb.l0] at H
   by_cases c3:sn < (l0.length:Int)
   ·rw [if_pos c3] at H;have Hh:decide (sn < (l0.length:Int))=true:=decide_eq_true c3;clear c3
    by_cases c4:0 ≤ sn
    ·rw [if_pos c4] at H;have jk:decide (0 ≤ sn)=true:=decide_eq_true c4;clear c4
     by_cases c5:sn < (l0.length:Int)
     ·rw [if_pos c5] at H;have yo:decide (sn < (l0.length:Int))=true:=decide_eq_true c5;clear c5
      by_cases c6:a1.toList=(Mk ByteArray.empty l0 sn).toList
      ·rw [if_pos c6] at H;have xo:(a1.toList == (Mk ByteArray.empty l0 sn).toList)=true:=beq_iff_eq.mpr c6;have ED:(a1.toList != (Mk ByteArray.empty l0 sn).toList)=false:=bne_eq_false_iff_eq.mpr c6;clear c6;obtain rfl:=Option.some.inj H;have Nd:0 ≤ (sn:Int):=of_decide_eq_true (by first|(with_reducible assumption)|assumption);have Md:sn < (l0.length:Int):=of_decide_eq_true (by first|(with_reducible assumption)|assumption);obtain ⟨Vb,Mg,Yb⟩:=Kd.Tr Zg.out sn Nd Md;cases Mg;replace Nd:=eq_true Nd;replace Md:=eq_true Md;go_wp2;go_ret;exact ⟨by first|rfl|(simp;done)|(simp [*];done),by repeat (first|exact Xc.refl _|apply Xc.step)⟩
      ·rw [if_neg c6] at H;have xo:(a1.toList == (Mk ByteArray.empty l0 sn).toList)=false:=beq_eq_false_iff_ne.mpr c6;have ED:(a1.toList != (Mk ByteArray.empty l0 sn).toList)=true:=bne_iff_ne.mpr c6;have H':=ia.mk H;clear H;have Nd:0 ≤ (sn:Int):=of_decide_eq_true (by first|(with_reducible assumption)|assumption);have Md:sn < (l0.length:Int):=of_decide_eq_true (by first|(with_reducible assumption)|assumption);obtain ⟨Vb,Mg,Yb⟩:=Kd.Tr Zg.out sn Nd Md;cases Mg;replace Nd:=eq_true Nd;replace Md:=eq_true Md;go_wp2
       go_roundg k1
       case measure=>have:=Kh.out;omega
       case rel=>exact ⟨(wrap64 (sn + 1)),(by first|rfl|(simp;done)|(simp [*];done)),H',⟨by have:=Kh.out;omega⟩,by repeat (first|exact Xc.refl _|apply Xc.step)⟩
     ·rw [if_neg c5] at H;exact absurd H (by simp)
    ·rw [if_neg c4] at H;exact absurd H (by simp)
   ·rw [if_neg c3] at H;have Hh:decide (sn < (l0.length:Int))=false:=decide_eq_false c3;clear c3;obtain rfl:=Option.some.inj H;go_wp2;go_ret;exact ⟨by first|rfl|(simp;done)|(simp [*];done),by repeat (first|exact Xc.refl _|apply Xc.step)⟩
def Jc.f (k:Nat) (l0:List ByteArray) (a1:ByteArray):Option (Bool):=(yb.f k l0 a1).bind fun t101=>(some (decide (t101 ≥ 0)))
theorem Jc.mono:∀ a0 a1 k,Zm (Jc.f k a0 a1) (Jc.f (k + 1) a0 a1):=by
 intro a0 a1 k;unfold Jc.f
 repeat' first
   | (with_reducible exact yb.mono _ _ _)
   | (with_reducible exact Zm.refl _)
   | (with_reducible exact Zm.none _)
   | (with_reducible refine Zm.ite ?_ ?_)
   | (with_reducible refine Zm.bind ?_ (fun _=>?_))
   | exact yb.mono _ _ _
   | exact Zm.none _
   | refine Zm.ite ?_ ?_
   | refine Zm.bind ?_ (fun _=>?_)
theorem Jc.calls (k:Nat) (A0:Option Addr) (c0:Nat) (l0:List ByteArray) (a1:ByteArray) (r:Bool) (w:World) (zk:Kd.C Kd.string w A0 l0.length l0) (hc0:l0.length ≤ c0) (h:Jc.f k l0 a1=some r) :
  Calls Try.prog 140 #[.slice A0 l0.length c0,.string a1] w fun e w'=>e = .returned (.bool r)∧Xc w w':=by
 have Zg:=ia.mk zk;have cE:=ia.mk hc0;clear zk hc0;have H:((yb.f k l0 a1).bind fun t101=>(some (decide (t101 ≥ 0))))=some r:=h;clear h;replace H:=Option.bind_eq_some_iff.mp H;obtain ⟨t101,Zz,H⟩:=H;replace H:(some (decide (t101 ≥ 0)))=some r:=H;have A3:=ia.mk Zz;clear Zz;obtain rfl:=Option.some.inj H;go_enter Try.func140,Try.ntmps140;go_wp2_with (first|((with_reducible refine jb (f:=141) rfl ?_);refine Lc (some 7) rfl rfl Try.func141 (by kernel_rfl) rfl #[.slice A0 l0.length c0,.string a1] rfl (by (try simp only [List.map_toArray,List.map_cons,List.map_nil]);first|done|rfl|(simp only [List.length_drop,List.length_take];rfl)) ?_;(with_reducible refine (yb.calls k _ _ l0 a1 t101 _ ?Pc ?Oc A3.out).mono ?_);(case Pc=>repeat (first|exact Zg.out|(with_reducible refine Kd.nc ?_ _)|(with_reducible refine Kd.mc ?_ _)|(with_reducible refine Kd.Rc ?_)));(case Oc=>exact cE.out);rintro e w' ⟨rfl,⟨nd,rfl⟩⟩;refine ⟨_,rfl,?_⟩));go_ret;exact ⟨by first|rfl|(simp;done)|(simp [*];done),by repeat (first|exact Xc.refl _|apply Xc.step)⟩
def jm.f (k:Nat) (a0:ByteArray):Option (Bool):=(Jc.f k (([(⟨#[61,61]⟩:ByteArray),(⟨#[60]⟩:ByteArray),(⟨#[38]⟩:ByteArray),(⟨#[43]⟩:ByteArray),(⟨#[45]⟩:ByteArray),(⟨#[42]⟩:ByteArray)]:List ByteArray)) a0).bind fun t104=>(some t104)
theorem jm.calls (k:Nat) (a0:ByteArray) (r:Bool) (w:World) (h:jm.f k a0=some r) :
  Calls Try.prog 136 #[.string a0] w fun e w'=>e = .returned (.bool r)∧Below w.heap.size w w':=by
 have HB:=ia.mk (Below.refl w.heap.size w);have H:((Jc.f k (([(⟨#[61,61]⟩:ByteArray),(⟨#[60]⟩:ByteArray),(⟨#[38]⟩:ByteArray),(⟨#[43]⟩:ByteArray),(⟨#[45]⟩:ByteArray),(⟨#[42]⟩:ByteArray)]:List ByteArray)) a0).bind fun t104=>(some t104))=some r:=h;clear h;obtain ⟨Rf,Bg⟩:∃ y_:List ByteArray,y_=(([(⟨#[61,61]⟩:ByteArray),(⟨#[60]⟩:ByteArray),(⟨#[38]⟩:ByteArray),(⟨#[43]⟩:ByteArray),(⟨#[45]⟩:ByteArray),(⟨#[42]⟩:ByteArray)]:List ByteArray)):=⟨_,rfl⟩;replace H:((Jc.f k Rf a0).bind fun t104=>(some t104))=some r:=by first|(rw [Bg];with_reducible exact H)|(have Vg:=(Option.bind_some _ _).symm.trans H;rw [Bg];with_reducible exact Vg)|(have Vg:=(Option.bind_some _ _).symm.trans H;with_reducible exact Vg)|with_reducible exact H|(rw [Bg];exact H)|exact H
 have Ml:=ia.mk Bg;clear Bg;replace H:=Option.bind_eq_some_iff.mp H;obtain ⟨t104,BQ,H⟩:=H;replace H:(some t104)=some r:=H;have A2:=ia.mk BQ;clear BQ;obtain rfl:=Option.some.inj H;go_enter Try.func136,Try.ntmps136;go_wp2_with (first|((with_reducible refine Bb (N:=3) rfl ?_);refine Kd.Ts Kd.string _ 9 ?hg (N:=3) ?hd (xs:=([(⟨#[61,61]⟩:ByteArray),(⟨#[60]⟩:ByteArray),(⟨#[38]⟩:ByteArray),(⟨#[43]⟩:ByteArray),(⟨#[45]⟩:ByteArray),(⟨#[42]⟩:ByteArray)]:List ByteArray)) (inner:=[.string (⟨#[61,61]⟩:ByteArray),.string (⟨#[60]⟩:ByteArray),.string (⟨#[38]⟩:ByteArray),.string (⟨#[43]⟩:ByteArray),.string (⟨#[45]⟩:ByteArray),.string (⟨#[42]⟩:ByteArray)]) (ok:=fun _=>True) (qk:=fun _=>True) ?hr ?hp (fun _ hk=>hk) trivial (Below.refl _ _) (Nat.le_refl _) (by simp) ?_;(case hd=>rfl);(case hg=>rfl);(case hr=>first|(go_simp;done)|(go_simp;rfl));(case hp=>exact (Me.one (show Kd.M Kd.string _ _ _ (⟨#[61,61]⟩:ByteArray) [.string (⟨#[61,61]⟩:ByteArray)] from rfl) (Me.one (show Kd.M Kd.string _ _ _ (⟨#[60]⟩:ByteArray) [.string (⟨#[60]⟩:ByteArray)] from rfl) (Me.one (show Kd.M Kd.string _ _ _ (⟨#[38]⟩:ByteArray) [.string (⟨#[38]⟩:ByteArray)] from rfl) (Me.one (show Kd.M Kd.string _ _ _ (⟨#[43]⟩:ByteArray) [.string (⟨#[43]⟩:ByteArray)] from rfl) (Me.one (show Kd.M Kd.string _ _ _ (⟨#[45]⟩:ByteArray) [.string (⟨#[45]⟩:ByteArray)] from rfl) (Me.one (show Kd.M Kd.string _ _ _ (⟨#[42]⟩:ByteArray) [.string (⟨#[42]⟩:ByteArray)] from rfl) (Me.none _ _))))))));intro SF w3 Ln hb pz Bj;clear pz Bj;(first|rw [← Ml.out] at Ln|(simp only [Int.reduceToNat] at Ln;rw [← Ml.out] at Ln));have Kb:=ia.mk (Kd.Eh Ln (Qa (by repeat (first|(with_reducible first|exact HB.out|apply oa|apply ja|apply qa)|exact HB.out))));have Ub:=ia.mk (Ra (by repeat (first|(with_reducible first|exact HB.out|apply oa|apply ja|apply qa)|exact HB.out)) hb);clear HB;have Dq:=Kb;have HB:=Ub;clear Kb Ub hb Ln;obtain ⟨Ao5,co5,MX⟩:=Kd.lf Dq.out;subst MX)|((with_reducible refine jb (f:=140) rfl ?_);refine Lc (some 5) rfl rfl Try.func140 (by kernel_rfl) rfl #[.slice Ao5 Rf.length co5,.string a0] rfl (by (try simp only [List.map_toArray,List.map_cons,List.map_nil]);first|done|rfl|(simp only [List.length_drop,List.length_take];rfl)) ?_;(with_reducible refine (Jc.calls k _ _ Rf a0 t104 _ ?Pc ?Oc A2.out).mono ?_);(case Pc=>repeat (first|exact (Kd.jc Dq.out).2.2|(with_reducible refine Kd.nc ?_ _)|(with_reducible refine Kd.mc ?_ _)|(with_reducible refine Kd.Rc ?_)));(case Oc=>exact (Kd.jc Dq.out).2.1);rintro e w' ⟨rfl,⟨nd,rfl⟩⟩;refine ⟨_,rfl,?_⟩));go_ret;exact ⟨by first|rfl|(simp [Ja,Ia] <;> rfl)|(simp [*,Ja,Ia] <;> rfl),by repeat (first|(with_reducible first|exact HB.out|apply oa|apply ja|apply qa)|exact HB.out)⟩
theorem AE (g:Nat) (lb:Array Value) (p:Int→Bool) (eg:∀ args w,(callFunc g args).run Try.prog w = .ok (.enter g args) w) (A0:Option Addr) (c0:Nat) (l0:List Int) (w:World) (zk:Kd.C (Kd.int .i64) w A0 l0.length l0) (hc0:l0.length ≤ c0)
  (hp:∀ (W:World) (x:Int),Below w.heap.size w W→Calls Try.prog g (#[(.int .i64 x)] ++ lb) W fun e w'=>e = .returned (.bool (p x))∧Below W.heap.size W w') :
  Calls Try.prog 130 #[.slice A0 l0.length c0,.func (.func g) #[] lb] w fun e w'=>(∃ i:Int,e = .returned (.int .i64 i)∧decide (0 ≤ i)=l0.any p)∧Below w.heap.size w w':=by
 have G1:=zk.2.1;have Zg:=ia.mk zk;have cE:=ia.mk hc0;have HP:=ia.mk hp;clear zk hc0 hp;go_enter Try.func130,Try.ntmps130;go_wp2
 go_loopg [5,8] l0.length (fun gg _ s8 wr=>∃ kk:Nat,kk ≤ l0.length∧l0.length - kk ≤ gg∧s8 = .int .i64 kk∧ia (Below w.heap.size w wr)∧ia ((l0.take kk).any p=false))
 case atStart=>exact ⟨0,Nat.zero_le _,by omega,rfl,⟨Below.refl _ w⟩,⟨by simp⟩⟩
 case round =>
  (try clear BW);(try clear HA);obtain ⟨kk,hkk,hg,rfl,BW,HA⟩:=hrel
  by_cases hlt:kk < l0.length
  ·have p1:0 ≤ (kk:Int):=by omega
   have q1:(kk:Int) < (l0.length:Int):=by omega
   obtain ⟨ad,e1,hx0⟩:=Kd.Bh Zg.out (kk:Int) p1 q1;cases e1;simp only [Int.toNat_natCast] at hx0;replace hx0:=(BW.out.cell (World.block_lt_of_cell? w _ hx0)).trans hx0;have Zv:=HP.out wr (rd l0 (kk:Int)) BW.out;cases hq:p (rd l0 (kk:Int)) with
   | true =>
    rw [hq] at Zv;go_wp2_with (go_at_fn g;refine Zv.mono ?_;rintro e w1 ⟨rfl,Xp⟩);go_ret;exact ⟨⟨_,rfl,by rw [xK (d:=0) hlt hq];simp⟩,BW.out.trans (Xp.mono BW.out.size)⟩
   | false =>
    rw [hq] at Zv;go_wp2_with (go_at_fn g;refine Zv.mono ?_;rintro e w1 ⟨rfl,Xp⟩)
    go_roundg (l0.length - (kk + 1))
    case measure=>omega
    case rel=>exact ⟨kk + 1,by omega,by omega,by go_num,⟨BW.out.trans (Xp.mono BW.out.size)⟩,⟨Ss (d:=0) hlt HA.out hq⟩⟩
  ·have iah:¬ (kk:Int) < (l0.length:Int):=by omega
   have he:kk=l0.length:=by omega
   subst he;go_wp2;go_ret;exact ⟨⟨_,rfl,by have h_:=HA.out;rw [List.take_length] at h_;rw [h_];simp⟩,BW.out⟩
theorem Nw (g:Nat) (lb:Array Value) (p:Int→Bool) (eg:∀ args w,(callFunc g args).run Try.prog w = .ok (.enter g args) w) (A0:Option Addr) (c0:Nat) (l0:List Int) (w:World) (zk:Kd.C (Kd.int .i64) w A0 l0.length l0) (hc0:l0.length ≤ c0)
  (hp:∀ (W:World) (x:Int),Below w.heap.size w W→Calls Try.prog g (#[(.int .i64 x)] ++ lb) W fun e w'=>e = .returned (.bool (p x))∧Below W.heap.size W w') :
  Calls Try.prog 113 #[.slice A0 l0.length c0,.func (.func g) #[] lb] w fun e w'=>e = .returned (.bool (l0.any p))∧Below w.heap.size w w':=by
 have HI:=ia.mk (AE g lb p eg A0 c0 l0 w zk hc0 hp);clear zk hc0 hp;go_enter Try.func113,Try.ntmps113;go_wp2_with (go_at_call 130;refine HI.out.mono ?_;rintro e w1 ⟨⟨i,rfl,hi⟩,Xp⟩;have HD:=ia.mk hi;clear hi);go_ret;exact ⟨by rw [← HD.out];first|rfl|simp,Xp⟩
def Uk (a b c:Int):Bool:=decide (b ≤ a) && decide (a ≤ c)
theorem Nk (a b c:Int) (w:World):Calls Try.prog 58 #[.int .i64 a,.int .i64 b,.int .i64 c] w fun e w'=>e = .returned (.bool (Uk a b c))∧Xc w w' :=
 mh.calls a b c (Uk a b c) w (by
  unfold mh.f Uk
  by_cases h:a ≥ b
  ·rw [if_pos h];have h':b ≤ a:=h;simp [h']
  ·rw [if_neg h];have h':¬ b ≤ a:=h
   simp [h'])
def Zs (l:List Int) (p v:Int):Bool:=Uk (l.length:Int) 1 4 && !(l.any fun n=>!Uk n 1 16) && Uk p 0 (if v < 6 then v else 6) && decide (v ≤ 20)
theorem wE (W:World) (x:Int):Calls Try.prog 114 #[.int .i64 x] W fun e w'=>e = .returned (.bool (!Uk x 1 16))∧Below W.heap.size W w':=by
 have HC:=ia.mk (Nk x 1 16);generalize Uk x 1 16=b at HC ⊢;go_enter Try.func114,Try.ntmps114;go_wp2_with (go_at_call 58;refine (HC.out _).mono ?_;rintro e w1 ⟨rfl,Xp⟩;have HD:=ia.mk Xp.below;clear Xp);go_ret;exact ⟨rfl,HD.out⟩
theorem KD (p0 p1 p2 p3:Value) (A:Option Addr) (c:Nat) (w:World) :
  Calls Try.prog 115 #[.agg #[p0,p1,p2,p3],.slice A 0 c,.int .i64 0] w fun e w'=>e = .returned (.bool true)∧Below w.heap.size w w':=by
 go_enter Try.func115,Try.ntmps115;go_wp2
 go_loop [25] (fun i=>i = .int .i64 0) (fun _=>0)
 case atStart=>exact rfl
 case round =>
  obtain rfl:=hrel;go_wp2;go_ret;exact ⟨rfl,oa (oa (Below.refl _ _) _) _⟩
theorem sA (A0 A3:Option Addr) (c0 c3:Nat) (l0:List Int) (a1 a2:Int) (w:World) (zk:Kd.C (Kd.int .i64) w A0 l0.length l0) (hc0:l0.length ≤ c0) :
  Calls Try.prog 89 #[.agg #[.slice A0 l0.length c0,.int .i64 a1,.int .i64 a2,.slice A3 0 c3]] w fun e w'=>e = .returned (.bool (Zs l0 a1 a2))∧Below w.heap.size w w':=by
 have eg:=enters_of Try.func114 (by kernel_rfl) rfl;have G1:=zk.2.1;have mM:=ia.mk (Nk (l0.length:Int) 1 4);have aU:=ia.mk (Nk a1 0 (if a2 < 6 then a2 else 6));have HF:=ia.mk (fun (W:World) (hb:Below w.heap.size w W)=>Nw 114 #[] (fun n=>!Uk n 1 16) eg A0 c0 l0 W (Kd.Eb zk hb) hc0 (fun W x _=>wE W x));clear zk hc0;unfold Zs
 by_cases h6:a2 < 6
 all_goals
  have hmin:min 6 a2=if a2 < 6 then a2 else 6:=by split <;> omega
  first|rw [if_pos h6] at aU hmin ⊢|rw [if_neg h6] at aU hmin ⊢
  cases Xp:Uk (l0.length:Int) 1 4 with
  | false =>
   go_enter Try.func89,Try.ntmps89;go_wp2_with (first|(go_at_call 58;refine (Nk _ _ _ _).mono ?_;rintro e w1 ⟨rfl,⟨n,rfl⟩⟩));go_ret;exact ⟨rfl,ja (oa (Below.refl _ _) _) _⟩
  | true =>
   cases ij:(l0.any fun n=>!Uk n 1 16) with
   | true =>
    rw [ij] at HF;go_enter Try.func89,Try.ntmps89;go_wp2_with (first|(go_at_call 58;refine (Nk _ _ _ _).mono ?_;rintro e w1 ⟨rfl,⟨n,rfl⟩⟩)|(go_at_call 113;refine (HF.out _ (ja (oa (Below.refl _ _) _) _)).mono ?_;rintro e w1 ⟨rfl,hb⟩;have HB:=ia.mk (Ra (ja (oa (Below.refl _ _) _) _) hb);clear hb));go_ret;exact ⟨rfl,HB.out⟩
   | false =>
    rw [ij] at HF;go_enter Try.func89,Try.ntmps89;go_wp2_with (first|(go_at_call 58;(with_reducible refine (Nk _ _ _ _).mono ?_);rintro e w1 ⟨rfl,⟨n,rfl⟩⟩)|(go_at_call 113;(with_reducible refine (HF.out _ (ja (oa (Below.refl _ _) _) _)).mono ?_);rintro e w1 ⟨rfl,hb⟩;have HB:=ia.mk (Ra (ja (oa (Below.refl _ _) _) _) hb);obtain ⟨uT,lS⟩:=mV hb;have eN:=hb.size;simp at eN;clear hb)|(go_at_call 115;(with_reducible refine (KD _ _ _ _ _ _ _).mono ?_);rintro e w2 ⟨rfl,hb⟩;have Vp:=ia.mk (Ra (ja HB.out _) hb);clear hb))
    all_goals
     go_ret
     first
      | exact ⟨by simp [*],Vp.out⟩
      | exact ⟨by simp [*],ja HB.out _⟩
def Lg.f (Sa:List Int) (Pa:Int) (Na:Int) (kG:List (Sw)):Option Bool:=if kG.length=0 then some (Zs Sa Pa Na) else none
theorem Lg.calls (xb:Option Addr) (qb:Nat) (Sa:List Int) (Pa:Int) (Na:Int) (fZ:Option Addr) (sY:Nat) (kG:List (Sw)) (r:Bool) (w:World) (zf:Kd.C (Kd.int .i64) w xb Sa.length Sa) (uf:Sa.length ≤ qb) (Uaj:Kd.C vag w fZ kG.length kG) (Xal:kG.length ≤ sY) (h:Lg.f Sa Pa Na kG=some r) :
  Calls Try.prog 89 #[.agg #[.slice xb Sa.length qb,.int .i64 Pa,.int .i64 Na,.slice fZ kG.length sY]] w fun e w'=>e = .returned (.bool r)∧Below w.heap.size w w':=by
 unfold Lg.f at h
 split at h
 ·rename_i h0;injection h with h
  subst h;rw [h0];exact sA xb fZ qb sY Sa Pa Na w zf uf
 ·cases h
theorem L7 (d:Nat) (w:World) (x0 y0:Int) (x1 y1:Int) (x2 y2:Int) (x3 y3:Int) (x4 y4:Int) (x5 y5:Int) (x6 y6:ByteArray) :
  (Op.equalIn (d + 2) 70 (.agg #[.int .i64 x0,.int .i64 x1,.int .i64 x2,.int .i64 x3,.int .i64 x4,.int .i64 x5,.string x6]) (.agg #[.int .i64 y0,.int .i64 y1,.int .i64 y2,.int .i64 y3,.int .i64 y4,.int .i64 y5,.string y6])).run Try.prog w = .ok (x0 == y0 && (x1 == y1 && (x2 == y2 && (x3 == y3 && (x4 == y4 && (x5 == y5 && (x6.toList == y6.toList))))))) w:=by
 refine LX Try.underlying70 (by kernel_rfl) ?_;refine Fo (by rfl) (by go_simp;rfl) (by go_simp;rfl) (by go_simp) ?_;refine Fo (by rfl) (by go_simp;rfl) (by go_simp;rfl) (by go_simp) ?_;refine Fo (by rfl) (by go_simp;rfl) (by go_simp;rfl) (by go_simp) ?_;refine Fo (by rfl) (by go_simp;rfl) (by go_simp;rfl) (by go_simp) ?_;refine Fo (by rfl) (by go_simp;rfl) (by go_simp;rfl) (by go_simp) ?_;refine Fo (by rfl) (by go_simp;rfl) (by go_simp;rfl) (by go_simp) ?_;exact ZN (by rfl) (by go_simp;rfl) (by go_simp;rfl) (by go_simp)
attribute [local go_sem high] L7
def cG:List ByteArray:=[⟨#[61,61]⟩,⟨#[60]⟩,⟨#[38]⟩,⟨#[43]⟩,⟨#[45]⟩,⟨#[42]⟩]
def bu (s:ByteArray):Bool:=cG.any fun y=>decide (s.toList=y.toList)
theorem nL (s:ByteArray):jm.f 8 s=some (bu s):=by
 unfold jm.f Jc.f yb.f bu cG;simp only [yb.l0,List.any_cons,List.any_nil]
 by_cases h0:s.toList=[61,61]
 ·simp [Mk,h0]
 by_cases h1:s.toList=[60]
 ·simp [Mk,h1,wrap64]
 by_cases h2:s.toList=[38]
 ·simp [Mk,h2,wrap64]
 by_cases h3:s.toList=[43]
 ·simp [Mk,h3,wrap64]
 by_cases h4:s.toList=[45]
 ·simp [Mk,h4,wrap64]
 by_cases h5:s.toList=[42]
 ·simp [Mk,h5,wrap64]
 simp [Mk,h0,h1,h2,h3,h4,h5,wrap64]
theorem lG (s:ByteArray) (w:World):Calls Try.prog 136 #[.string s] w fun e w'=>e = .returned (.bool (bu s))∧Below w.heap.size w w':=jm.calls 8 s (bu s) w (nL s)
def Yj (slots s:Int):Bool:=decide (0 ≤ s) && decide (s < slots)
theorem yj (B:Nat) (slots s:Int) (W:World) (eA:W.cell? ⟨B,3,none⟩=some (.int .i64 slots)):Calls Try.prog 135 #[.int .i64 s,.pointer (some ⟨B,0,none⟩)] W fun e w'=>e = .returned (.bool (Yj slots s))∧W=w':=by
 unfold Yj
 by_cases h:0 ≤ s
 all_goals
  go_enter Try.func135,Try.ntmps135;go_wp2;go_ret;exact ⟨by simp [*];try omega,rfl⟩
theorem uL (A0 A4:Option Addr) (c0 c4 n0 n4:Nat) (p1 p2 slots d a b c n:Int) (t:ByteArray) (w:World) (hn0:n0 ≤ 9223372036854775807) (JA:n4 ≤ 9223372036854775807) :
  Calls Try.prog 118 #[.agg #[.slice A0 n0 c0,.int .i64 p1,.int .i64 p2,.int .i64 slots,.slice A4 n4 c4],.agg #[.int .i64 0,.int .i64 d,.int .i64 a,.int .i64 b,.int .i64 c,.int .i64 n,.string t]] w fun e w'=>e = .returned (.bool (Yj slots d && (a == 0 && (b == 0 && (c == 0 && t.toList.isEmpty)))))∧Below w.heap.size w w':=by
 obtain ⟨W1,Pf⟩:∃ W1,W1=(w.alloc (.cells #[.slice A0 n0 c0,.int .i64 p1,.int .i64 p2,.int .i64 slots,.slice A4 n4 c4] 30 (0,0))).alloc (.cells #[.int .i64 0,.int .i64 d,.int .i64 a,.int .i64 b,.int .i64 c,.int .i64 n,.string t] 70 (0,0)):=⟨_,rfl⟩;have HW:=ia.mk Pf;have HB:=ia.mk (show Below w.heap.size w W1 from by rw [Pf];exact oa (oa (Below.refl _ _) _) _);have hz:W1.heap.size=w.heap.size + 2:=by rw [Pf];simp
 have GX:W1.cell? ⟨w.heap.size,3,none⟩=some (.int .i64 slots):=by rw [Pf];simp
 have hx0:W1.cell? ⟨w.heap.size + 1,0,none⟩=some (.int .i64 0):=by rw [Pf];simp
 have hx1:W1.cell? ⟨w.heap.size + 1,1,none⟩=some (.int .i64 d):=by rw [Pf];simp
 have mj:W1.cell? ⟨w.heap.size + 1,2,none⟩=some (.int .i64 a):=by rw [Pf];simp
 have Ni:W1.cell? ⟨w.heap.size + 1,3,none⟩=some (.int .i64 b):=by rw [Pf];simp
 have kj:W1.cell? ⟨w.heap.size + 1,4,none⟩=some (.int .i64 c):=by rw [Pf];simp
 have rm:W1.cell? ⟨w.heap.size + 1,5,none⟩=some (.int .i64 n):=by rw [Pf];simp
 have qm:W1.cell? ⟨w.heap.size + 1,6,none⟩=some (.string t):=by rw [Pf];simp
 clear Pf;go_enter Try.func118,Try.ntmps118;go_wp2_with (first|(go_at_call 58;(with_reducible refine (Nk _ _ _ _).mono ?_);rintro e w1 ⟨rfl,⟨k1,rfl⟩⟩));rw [← HW.out];clear HW
 go_region
 all_goals go_wp2_with (first|(go_at_call 135;(refine (yj _ slots _ _ ?hc).mono ?_);(case hc=>first|(go_simp;done)|(go_simp;rfl));rintro e w1 ⟨rfl,rfl⟩))
 all_goals go_ret
 all_goals exact ⟨by (try clear uT lS eN Vp);simp [*],by repeat (first|exact HB.out|(refine Ra ?_ Vp.out)|apply ja|apply qa|apply oa|refine ua ?_ (by first|omega|(simp;done)|(simp;omega)))⟩
theorem tL (A0 A4:Option Addr) (c0 c4 n0 n4:Nat) (p1 p2 slots d a b c n:Int) (t:ByteArray) (w:World) (hn0:n0 ≤ 9223372036854775807) (JA:n4 ≤ 9223372036854775807) :
  Calls Try.prog 118 #[.agg #[.slice A0 n0 c0,.int .i64 p1,.int .i64 p2,.int .i64 slots,.slice A4 n4 c4],.agg #[.int .i64 1,.int .i64 d,.int .i64 a,.int .i64 b,.int .i64 c,.int .i64 n,.string t]] w fun e w'=>e = .returned (.bool (Yj slots d && Yj slots a && (b == 0 && (c == 0 && (n == 0 && t.toList.isEmpty)))))∧Below w.heap.size w w':=by
 obtain ⟨W1,Pf⟩:∃ W1,W1=(w.alloc (.cells #[.slice A0 n0 c0,.int .i64 p1,.int .i64 p2,.int .i64 slots,.slice A4 n4 c4] 30 (0,0))).alloc (.cells #[.int .i64 1,.int .i64 d,.int .i64 a,.int .i64 b,.int .i64 c,.int .i64 n,.string t] 70 (0,0)):=⟨_,rfl⟩;have HW:=ia.mk Pf;have HB:=ia.mk (show Below w.heap.size w W1 from by rw [Pf];exact oa (oa (Below.refl _ _) _) _);have hz:W1.heap.size=w.heap.size + 2:=by rw [Pf];simp
 have GX:W1.cell? ⟨w.heap.size,3,none⟩=some (.int .i64 slots):=by rw [Pf];simp
 have hx0:W1.cell? ⟨w.heap.size + 1,0,none⟩=some (.int .i64 1):=by rw [Pf];simp
 have hx1:W1.cell? ⟨w.heap.size + 1,1,none⟩=some (.int .i64 d):=by rw [Pf];simp
 have mj:W1.cell? ⟨w.heap.size + 1,2,none⟩=some (.int .i64 a):=by rw [Pf];simp
 have Ni:W1.cell? ⟨w.heap.size + 1,3,none⟩=some (.int .i64 b):=by rw [Pf];simp
 have kj:W1.cell? ⟨w.heap.size + 1,4,none⟩=some (.int .i64 c):=by rw [Pf];simp
 have rm:W1.cell? ⟨w.heap.size + 1,5,none⟩=some (.int .i64 n):=by rw [Pf];simp
 have qm:W1.cell? ⟨w.heap.size + 1,6,none⟩=some (.string t):=by rw [Pf];simp
 clear Pf;go_enter Try.func118,Try.ntmps118;go_wp2_with (first|(go_at_call 58;(with_reducible refine (Nk _ _ _ _).mono ?_);rintro e w1 ⟨rfl,⟨k1,rfl⟩⟩));rw [← HW.out];clear HW
 go_region
 all_goals go_wp2_with (first|(go_at_call 135;(refine (yj _ slots _ _ ?hc).mono ?_);(case hc=>first|(go_simp;done)|(go_simp;rfl));rintro e w1 ⟨rfl,rfl⟩))
 all_goals go_ret
 all_goals exact ⟨by (try clear uT lS eN Vp);simp [*],by repeat (first|exact HB.out|(refine Ra ?_ Vp.out)|apply ja|apply qa|apply oa|refine ua ?_ (by first|omega|(simp;done)|(simp;omega)))⟩
theorem sL (A0 A4:Option Addr) (c0 c4 n0 n4:Nat) (p1 p2 slots d a b c n:Int) (t:ByteArray) (w:World) (hn0:n0 ≤ 9223372036854775807) (JA:n4 ≤ 9223372036854775807) :
  Calls Try.prog 118 #[.agg #[.slice A0 n0 c0,.int .i64 p1,.int .i64 p2,.int .i64 slots,.slice A4 n4 c4],.agg #[.int .i64 2,.int .i64 d,.int .i64 a,.int .i64 b,.int .i64 c,.int .i64 n,.string t]] w fun e w'=>e = .returned (.bool (Yj slots d && Yj slots a && Yj slots b && bu t && (c == 0 && n == 0)))∧Below w.heap.size w w':=by
 obtain ⟨W1,Pf⟩:∃ W1,W1=(w.alloc (.cells #[.slice A0 n0 c0,.int .i64 p1,.int .i64 p2,.int .i64 slots,.slice A4 n4 c4] 30 (0,0))).alloc (.cells #[.int .i64 2,.int .i64 d,.int .i64 a,.int .i64 b,.int .i64 c,.int .i64 n,.string t] 70 (0,0)):=⟨_,rfl⟩;have HW:=ia.mk Pf;have HB:=ia.mk (show Below w.heap.size w W1 from by rw [Pf];exact oa (oa (Below.refl _ _) _) _);have hz:W1.heap.size=w.heap.size + 2:=by rw [Pf];simp
 have GX:W1.cell? ⟨w.heap.size,3,none⟩=some (.int .i64 slots):=by rw [Pf];simp
 have hx0:W1.cell? ⟨w.heap.size + 1,0,none⟩=some (.int .i64 2):=by rw [Pf];simp
 have hx1:W1.cell? ⟨w.heap.size + 1,1,none⟩=some (.int .i64 d):=by rw [Pf];simp
 have mj:W1.cell? ⟨w.heap.size + 1,2,none⟩=some (.int .i64 a):=by rw [Pf];simp
 have Ni:W1.cell? ⟨w.heap.size + 1,3,none⟩=some (.int .i64 b):=by rw [Pf];simp
 have kj:W1.cell? ⟨w.heap.size + 1,4,none⟩=some (.int .i64 c):=by rw [Pf];simp
 have rm:W1.cell? ⟨w.heap.size + 1,5,none⟩=some (.int .i64 n):=by rw [Pf];simp
 have qm:W1.cell? ⟨w.heap.size + 1,6,none⟩=some (.string t):=by rw [Pf];simp
 clear Pf;go_enter Try.func118,Try.ntmps118;go_wp2_with (first|(go_at_call 58;(with_reducible refine (Nk _ _ _ _).mono ?_);rintro e w1 ⟨rfl,⟨k1,rfl⟩⟩));rw [← HW.out];clear HW
 go_region
 all_goals go_wp2_with (first|(go_at_call 135;(refine (yj _ slots _ _ ?hc).mono ?_);(case hc=>first|(go_simp;done)|(go_simp;rfl));rintro e w1 ⟨rfl,rfl⟩)|(go_at_call 136;(with_reducible refine (lG _ _).mono ?_);rintro e w2 ⟨rfl,ij⟩;have Vp:=ia.mk ij;obtain ⟨uT,lS⟩:=mV ij;have eN:=ij.size;simp at eN;clear ij))
 all_goals go_ret
 all_goals exact ⟨by (try clear uT lS eN Vp);simp [*],by repeat (first|exact HB.out|(refine Ra ?_ Vp.out)|apply ja|apply qa|apply oa|refine ua ?_ (by first|omega|(simp;done)|(simp;omega)))⟩
theorem rL (A0 A4:Option Addr) (c0 c4 n0 n4:Nat) (p1 p2 slots d a b c n:Int) (t:ByteArray) (w:World) (hn0:n0 ≤ 9223372036854775807) (JA:n4 ≤ 9223372036854775807) :
  Calls Try.prog 118 #[.agg #[.slice A0 n0 c0,.int .i64 p1,.int .i64 p2,.int .i64 slots,.slice A4 n4 c4],.agg #[.int .i64 3,.int .i64 d,.int .i64 a,.int .i64 b,.int .i64 c,.int .i64 n,.string t]] w fun e w'=>e = .returned (.bool (Yj slots d && Yj slots b && Uk n 0 ((n0:Int) - 1) && (Yj slots a || a == -1) && (c == 0 && t.toList.isEmpty)))∧Below w.heap.size w w':=by
 obtain ⟨W1,Pf⟩:∃ W1,W1=(w.alloc (.cells #[.slice A0 n0 c0,.int .i64 p1,.int .i64 p2,.int .i64 slots,.slice A4 n4 c4] 30 (0,0))).alloc (.cells #[.int .i64 3,.int .i64 d,.int .i64 a,.int .i64 b,.int .i64 c,.int .i64 n,.string t] 70 (0,0)):=⟨_,rfl⟩;have HW:=ia.mk Pf;have HB:=ia.mk (show Below w.heap.size w W1 from by rw [Pf];exact oa (oa (Below.refl _ _) _) _);have hz:W1.heap.size=w.heap.size + 2:=by rw [Pf];simp
 have GX:W1.cell? ⟨w.heap.size,3,none⟩=some (.int .i64 slots):=by rw [Pf];simp
 have hx0:W1.cell? ⟨w.heap.size + 1,0,none⟩=some (.int .i64 3):=by rw [Pf];simp
 have hx1:W1.cell? ⟨w.heap.size + 1,1,none⟩=some (.int .i64 d):=by rw [Pf];simp
 have mj:W1.cell? ⟨w.heap.size + 1,2,none⟩=some (.int .i64 a):=by rw [Pf];simp
 have Ni:W1.cell? ⟨w.heap.size + 1,3,none⟩=some (.int .i64 b):=by rw [Pf];simp
 have kj:W1.cell? ⟨w.heap.size + 1,4,none⟩=some (.int .i64 c):=by rw [Pf];simp
 have rm:W1.cell? ⟨w.heap.size + 1,5,none⟩=some (.int .i64 n):=by rw [Pf];simp
 have qm:W1.cell? ⟨w.heap.size + 1,6,none⟩=some (.string t):=by rw [Pf];simp
 clear Pf;go_enter Try.func118,Try.ntmps118;go_wp2_with (first|(go_at_call 58;(with_reducible refine (Nk _ _ _ _).mono ?_);rintro e w1 ⟨rfl,⟨k1,rfl⟩⟩));rw [← HW.out];clear HW
 go_region
 all_goals go_wp2_with (first|(go_at_call 135;(refine (yj _ slots _ _ ?hc).mono ?_);(case hc=>first|(go_simp;done)|(go_simp;rfl));rintro e w1 ⟨rfl,rfl⟩))
 all_goals go_ret
 all_goals exact ⟨by (try clear uT lS eN Vp);simp [*],by repeat (first|exact HB.out|(refine Ra ?_ Vp.out)|apply ja|apply qa|apply oa|refine ua ?_ (by first|omega|(simp;done)|(simp;omega)))⟩
theorem qL (A0 A4:Option Addr) (c0 c4 n0 n4:Nat) (p1 p2 slots d a b c n:Int) (t:ByteArray) (w:World) (hn0:n0 ≤ 9223372036854775807) (JA:n4 ≤ 9223372036854775807) :
  Calls Try.prog 118 #[.agg #[.slice A0 n0 c0,.int .i64 p1,.int .i64 p2,.int .i64 slots,.slice A4 n4 c4],.agg #[.int .i64 4,.int .i64 d,.int .i64 a,.int .i64 b,.int .i64 c,.int .i64 n,.string t]] w fun e w'=>e = .returned (.bool (Yj slots c && Yj slots b && Uk n 0 ((n0:Int) - 1) && (Yj slots a || a == -1) && (d == 0 && t.toList.isEmpty)))∧Below w.heap.size w w':=by
 obtain ⟨W1,Pf⟩:∃ W1,W1=(w.alloc (.cells #[.slice A0 n0 c0,.int .i64 p1,.int .i64 p2,.int .i64 slots,.slice A4 n4 c4] 30 (0,0))).alloc (.cells #[.int .i64 4,.int .i64 d,.int .i64 a,.int .i64 b,.int .i64 c,.int .i64 n,.string t] 70 (0,0)):=⟨_,rfl⟩;have HW:=ia.mk Pf;have HB:=ia.mk (show Below w.heap.size w W1 from by rw [Pf];exact oa (oa (Below.refl _ _) _) _);have hz:W1.heap.size=w.heap.size + 2:=by rw [Pf];simp
 have GX:W1.cell? ⟨w.heap.size,3,none⟩=some (.int .i64 slots):=by rw [Pf];simp
 have hx0:W1.cell? ⟨w.heap.size + 1,0,none⟩=some (.int .i64 4):=by rw [Pf];simp
 have hx1:W1.cell? ⟨w.heap.size + 1,1,none⟩=some (.int .i64 d):=by rw [Pf];simp
 have mj:W1.cell? ⟨w.heap.size + 1,2,none⟩=some (.int .i64 a):=by rw [Pf];simp
 have Ni:W1.cell? ⟨w.heap.size + 1,3,none⟩=some (.int .i64 b):=by rw [Pf];simp
 have kj:W1.cell? ⟨w.heap.size + 1,4,none⟩=some (.int .i64 c):=by rw [Pf];simp
 have rm:W1.cell? ⟨w.heap.size + 1,5,none⟩=some (.int .i64 n):=by rw [Pf];simp
 have qm:W1.cell? ⟨w.heap.size + 1,6,none⟩=some (.string t):=by rw [Pf];simp
 clear Pf;go_enter Try.func118,Try.ntmps118;go_wp2_with (first|(go_at_call 58;(with_reducible refine (Nk _ _ _ _).mono ?_);rintro e w1 ⟨rfl,⟨k1,rfl⟩⟩));rw [← HW.out];clear HW
 go_region
 all_goals go_wp2_with (first|(go_at_call 135;(refine (yj _ slots _ _ ?hc).mono ?_);(case hc=>first|(go_simp;done)|(go_simp;rfl));rintro e w1 ⟨rfl,rfl⟩))
 all_goals go_ret
 all_goals exact ⟨by (try clear uT lS eN Vp);simp [*],by repeat (first|exact HB.out|(refine Ra ?_ Vp.out)|apply ja|apply qa|apply oa|refine ua ?_ (by first|omega|(simp;done)|(simp;omega)))⟩
theorem pL (A0 A4:Option Addr) (c0 c4 n0 n4:Nat) (p1 p2 slots d a b c n:Int) (t:ByteArray) (w:World) (hn0:n0 ≤ 9223372036854775807) (JA:n4 ≤ 9223372036854775807) :
  Calls Try.prog 118 #[.agg #[.slice A0 n0 c0,.int .i64 p1,.int .i64 p2,.int .i64 slots,.slice A4 n4 c4],.agg #[.int .i64 5,.int .i64 d,.int .i64 a,.int .i64 b,.int .i64 c,.int .i64 n,.string t]] w fun e w'=>e = .returned (.bool (Yj slots d && (a == 0 && (b == 0 && (c == 0 && (n == 0 && t.toList.isEmpty))))))∧Below w.heap.size w w':=by
 obtain ⟨W1,Pf⟩:∃ W1,W1=(w.alloc (.cells #[.slice A0 n0 c0,.int .i64 p1,.int .i64 p2,.int .i64 slots,.slice A4 n4 c4] 30 (0,0))).alloc (.cells #[.int .i64 5,.int .i64 d,.int .i64 a,.int .i64 b,.int .i64 c,.int .i64 n,.string t] 70 (0,0)):=⟨_,rfl⟩;have HW:=ia.mk Pf;have HB:=ia.mk (show Below w.heap.size w W1 from by rw [Pf];exact oa (oa (Below.refl _ _) _) _);have hz:W1.heap.size=w.heap.size + 2:=by rw [Pf];simp
 have GX:W1.cell? ⟨w.heap.size,3,none⟩=some (.int .i64 slots):=by rw [Pf];simp
 have hx0:W1.cell? ⟨w.heap.size + 1,0,none⟩=some (.int .i64 5):=by rw [Pf];simp
 have hx1:W1.cell? ⟨w.heap.size + 1,1,none⟩=some (.int .i64 d):=by rw [Pf];simp
 have mj:W1.cell? ⟨w.heap.size + 1,2,none⟩=some (.int .i64 a):=by rw [Pf];simp
 have Ni:W1.cell? ⟨w.heap.size + 1,3,none⟩=some (.int .i64 b):=by rw [Pf];simp
 have kj:W1.cell? ⟨w.heap.size + 1,4,none⟩=some (.int .i64 c):=by rw [Pf];simp
 have rm:W1.cell? ⟨w.heap.size + 1,5,none⟩=some (.int .i64 n):=by rw [Pf];simp
 have qm:W1.cell? ⟨w.heap.size + 1,6,none⟩=some (.string t):=by rw [Pf];simp
 clear Pf;go_enter Try.func118,Try.ntmps118;go_wp2_with (first|(go_at_call 58;(with_reducible refine (Nk _ _ _ _).mono ?_);rintro e w1 ⟨rfl,⟨k1,rfl⟩⟩));rw [← HW.out];clear HW
 go_region
 all_goals go_wp2_with (first|(go_at_call 135;(refine (yj _ slots _ _ ?hc).mono ?_);(case hc=>first|(go_simp;done)|(go_simp;rfl));rintro e w1 ⟨rfl,rfl⟩))
 all_goals go_ret
 all_goals exact ⟨by (try clear uT lS eN Vp);simp [*],by repeat (first|exact HB.out|(refine Ra ?_ Vp.out)|apply ja|apply qa|apply oa|refine ua ?_ (by first|omega|(simp;done)|(simp;omega)))⟩
theorem oL (A0 A4:Option Addr) (c0 c4 n0 n4:Nat) (p1 p2 slots d a b c n:Int) (t:ByteArray) (w:World) (hn0:n0 ≤ 9223372036854775807) (JA:n4 ≤ 9223372036854775807) :
  Calls Try.prog 118 #[.agg #[.slice A0 n0 c0,.int .i64 p1,.int .i64 p2,.int .i64 slots,.slice A4 n4 c4],.agg #[.int .i64 6,.int .i64 d,.int .i64 a,.int .i64 b,.int .i64 c,.int .i64 n,.string t]] w fun e w'=>e = .returned (.bool (Yj slots a && (d == 0 && (b == 0 && (c == 0 && (n == 0 && t.toList.isEmpty))))))∧Below w.heap.size w w':=by
 obtain ⟨W1,Pf⟩:∃ W1,W1=(w.alloc (.cells #[.slice A0 n0 c0,.int .i64 p1,.int .i64 p2,.int .i64 slots,.slice A4 n4 c4] 30 (0,0))).alloc (.cells #[.int .i64 6,.int .i64 d,.int .i64 a,.int .i64 b,.int .i64 c,.int .i64 n,.string t] 70 (0,0)):=⟨_,rfl⟩;have HW:=ia.mk Pf;have HB:=ia.mk (show Below w.heap.size w W1 from by rw [Pf];exact oa (oa (Below.refl _ _) _) _);have hz:W1.heap.size=w.heap.size + 2:=by rw [Pf];simp
 have GX:W1.cell? ⟨w.heap.size,3,none⟩=some (.int .i64 slots):=by rw [Pf];simp
 have hx0:W1.cell? ⟨w.heap.size + 1,0,none⟩=some (.int .i64 6):=by rw [Pf];simp
 have hx1:W1.cell? ⟨w.heap.size + 1,1,none⟩=some (.int .i64 d):=by rw [Pf];simp
 have mj:W1.cell? ⟨w.heap.size + 1,2,none⟩=some (.int .i64 a):=by rw [Pf];simp
 have Ni:W1.cell? ⟨w.heap.size + 1,3,none⟩=some (.int .i64 b):=by rw [Pf];simp
 have kj:W1.cell? ⟨w.heap.size + 1,4,none⟩=some (.int .i64 c):=by rw [Pf];simp
 have rm:W1.cell? ⟨w.heap.size + 1,5,none⟩=some (.int .i64 n):=by rw [Pf];simp
 have qm:W1.cell? ⟨w.heap.size + 1,6,none⟩=some (.string t):=by rw [Pf];simp
 clear Pf;go_enter Try.func118,Try.ntmps118;go_wp2_with (first|(go_at_call 58;(with_reducible refine (Nk _ _ _ _).mono ?_);rintro e w1 ⟨rfl,⟨k1,rfl⟩⟩));rw [← HW.out];clear HW
 go_region
 all_goals go_wp2_with (first|(go_at_call 135;(refine (yj _ slots _ _ ?hc).mono ?_);(case hc=>first|(go_simp;done)|(go_simp;rfl));rintro e w1 ⟨rfl,rfl⟩))
 all_goals go_ret
 all_goals exact ⟨by (try clear uT lS eN Vp);simp [*],by repeat (first|exact HB.out|(refine Ra ?_ Vp.out)|apply ja|apply qa|apply oa|refine ua ?_ (by first|omega|(simp;done)|(simp;omega)))⟩
theorem mG (A0 A4:Option Addr) (c0 c4 n0 n4:Nat) (p1 p2 slots d a b c n:Int) (t:ByteArray) (w:World) (hn0:n0 ≤ 9223372036854775807) (JA:n4 ≤ 9223372036854775807) (o:Int) (h0:(o == 0)=false) (h1:(o == 1)=false) (h2:(o == 2)=false) (h3:(o == 3)=false) (h4:(o == 4)=false) (h5:(o == 5)=false) (h6:(o == 6)=false) :
  Calls Try.prog 118 #[.agg #[.slice A0 n0 c0,.int .i64 p1,.int .i64 p2,.int .i64 slots,.slice A4 n4 c4],.agg #[.int .i64 o,.int .i64 d,.int .i64 a,.int .i64 b,.int .i64 c,.int .i64 n,.string t]] w fun e w'=>e = .returned (.bool (false))∧Below w.heap.size w w':=by
 obtain ⟨W1,Pf⟩:∃ W1,W1=(w.alloc (.cells #[.slice A0 n0 c0,.int .i64 p1,.int .i64 p2,.int .i64 slots,.slice A4 n4 c4] 30 (0,0))).alloc (.cells #[.int .i64 o,.int .i64 d,.int .i64 a,.int .i64 b,.int .i64 c,.int .i64 n,.string t] 70 (0,0)):=⟨_,rfl⟩;have HW:=ia.mk Pf;have HB:=ia.mk (show Below w.heap.size w W1 from by rw [Pf];exact oa (oa (Below.refl _ _) _) _);have hz:W1.heap.size=w.heap.size + 2:=by rw [Pf];simp
 have GX:W1.cell? ⟨w.heap.size,3,none⟩=some (.int .i64 slots):=by rw [Pf];simp
 have hx0:W1.cell? ⟨w.heap.size + 1,0,none⟩=some (.int .i64 o):=by rw [Pf];simp
 have hx1:W1.cell? ⟨w.heap.size + 1,1,none⟩=some (.int .i64 d):=by rw [Pf];simp
 have mj:W1.cell? ⟨w.heap.size + 1,2,none⟩=some (.int .i64 a):=by rw [Pf];simp
 have Ni:W1.cell? ⟨w.heap.size + 1,3,none⟩=some (.int .i64 b):=by rw [Pf];simp
 have kj:W1.cell? ⟨w.heap.size + 1,4,none⟩=some (.int .i64 c):=by rw [Pf];simp
 have rm:W1.cell? ⟨w.heap.size + 1,5,none⟩=some (.int .i64 n):=by rw [Pf];simp
 have qm:W1.cell? ⟨w.heap.size + 1,6,none⟩=some (.string t):=by rw [Pf];simp
 clear Pf;go_enter Try.func118,Try.ntmps118;go_wp2_with (first|(go_at_call 58;(with_reducible refine (Nk _ _ _ _).mono ?_);rintro e w1 ⟨rfl,⟨k1,rfl⟩⟩));rw [← HW.out];clear HW
 go_region
 all_goals go_wp2_with (first|(go_at_call 135;(refine (yj _ slots _ _ ?hc).mono ?_);(case hc=>first|(go_simp;done)|(go_simp;rfl));rintro e w1 ⟨rfl,rfl⟩))
 all_goals go_ret
 all_goals exact ⟨by (try clear uT lS eN Vp);simp [*],by repeat (first|exact HB.out|(refine Ra ?_ Vp.out)|apply ja|apply qa|apply oa|refine ua ?_ (by first|omega|(simp;done)|(simp;omega)))⟩
def jl (n0:Nat) (slots:Int) (o d a b c n:Int) (t:ByteArray):Bool :=
 if o=0 then Yj slots d && (a == 0 && (b == 0 && (c == 0 && t.toList.isEmpty)))
 else if o=1 then Yj slots d && Yj slots a && (b == 0 && (c == 0 && (n == 0 && t.toList.isEmpty)))
 else if o=2 then Yj slots d && Yj slots a && Yj slots b && bu t && (c == 0 && n == 0)
 else if o=3 then Yj slots d && Yj slots b && Uk n 0 ((n0:Int) - 1) && (Yj slots a || a == -1) && (c == 0 && t.toList.isEmpty)
 else if o=4 then Yj slots c && Yj slots b && Uk n 0 ((n0:Int) - 1) && (Yj slots a || a == -1) && (d == 0 && t.toList.isEmpty)
 else if o=5 then Yj slots d && (a == 0 && (b == 0 && (c == 0 && (n == 0 && t.toList.isEmpty))))
 else if o=6 then Yj slots a && (d == 0 && (b == 0 && (c == 0 && (n == 0 && t.toList.isEmpty))))
 else false
theorem xE (A0 A4:Option Addr) (c0 c4 n0 n4:Nat) (p1 p2 slots:Int) (w:World) (hn0:n0 ≤ 9223372036854775807) (JA:n4 ≤ 9223372036854775807) (o d a b c n:Int) (t:ByteArray) :
  Calls Try.prog 118 #[.agg #[.slice A0 n0 c0,.int .i64 p1,.int .i64 p2,.int .i64 slots,.slice A4 n4 c4],.agg #[.int .i64 o,.int .i64 d,.int .i64 a,.int .i64 b,.int .i64 c,.int .i64 n,.string t]] w fun e w'=>e = .returned (.bool (jl n0 slots o d a b c n t))∧Below w.heap.size w w':=by
 unfold jl
 by_cases h0:o=0
 ·rw [if_pos h0,h0];exact uL A0 A4 c0 c4 n0 n4 p1 p2 slots d a b c n t w hn0 JA
 rw [if_neg h0]
 by_cases h1:o=1
 ·rw [if_pos h1,h1];exact tL A0 A4 c0 c4 n0 n4 p1 p2 slots d a b c n t w hn0 JA
 rw [if_neg h1]
 by_cases h2:o=2
 ·rw [if_pos h2,h2];exact sL A0 A4 c0 c4 n0 n4 p1 p2 slots d a b c n t w hn0 JA
 rw [if_neg h2]
 by_cases h3:o=3
 ·rw [if_pos h3,h3];exact rL A0 A4 c0 c4 n0 n4 p1 p2 slots d a b c n t w hn0 JA
 rw [if_neg h3]
 by_cases h4:o=4
 ·rw [if_pos h4,h4];exact qL A0 A4 c0 c4 n0 n4 p1 p2 slots d a b c n t w hn0 JA
 rw [if_neg h4]
 by_cases h5:o=5
 ·rw [if_pos h5,h5];exact pL A0 A4 c0 c4 n0 n4 p1 p2 slots d a b c n t w hn0 JA
 rw [if_neg h5]
 by_cases h6:o=6
 ·rw [if_pos h6,h6];exact oL A0 A4 c0 c4 n0 n4 p1 p2 slots d a b c n t w hn0 JA
 rw [if_neg h6];exact mG A0 A4 c0 c4 n0 n4 p1 p2 slots d a b c n t w hn0 JA o (beq_eq_false_iff_ne.mpr h0) (beq_eq_false_iff_ne.mpr h1) (beq_eq_false_iff_ne.mpr h2) (beq_eq_false_iff_ne.mpr h3) (beq_eq_false_iff_ne.mpr h4) (beq_eq_false_iff_ne.mpr h5) (beq_eq_false_iff_ne.mpr h6)
def gl (n0:Nat) (slots:Int) (x:ee):Bool:=jl n0 slots x.f0 x.f1 x.f2 x.f3 x.f4 x.f5 x.f6
def Uj (n0:Nat) (slots:Int) (n4:Nat) (code:List ee) (j a tg els:Int):Bool :=
 !(code.any fun x=>!gl n0 slots x) && decide (0 ≤ slots) &&
  (if j=0 then Uk tg 0 ((n4:Int) - 1) && a == 0 && els == 0
   else if j=1 then Uk tg 0 ((n4:Int) - 1) && Uk els 0 ((n4:Int) - 1) && Yj slots a
   else if j=2 then Yj slots a && tg == 0 && els == 0
   else false)
theorem vL (B:Nat) (A0 A4:Option Addr) (c0 c4 n0 n4:Nat) (p1 p2 slots:Int) (hn0:n0 ≤ 9223372036854775807) (JA:n4 ≤ 9223372036854775807) (W:World) (x:ee)
  (hb0:W.cell? ⟨B,0,none⟩=some (.slice A0 n0 c0)) (Xp:W.cell? ⟨B,1,none⟩=some (.int .i64 p1)) (ij:W.cell? ⟨B,2,none⟩=some (.int .i64 p2)) (eA:W.cell? ⟨B,3,none⟩=some (.int .i64 slots)) (vT:W.cell? ⟨B,4,none⟩=some (.slice A4 n4 c4)) (hB:B < W.heap.size) :
  Calls Try.prog 117 #[.agg #[.int .i64 x.f0,.int .i64 x.f1,.int .i64 x.f2,.int .i64 x.f3,.int .i64 x.f4,.int .i64 x.f5,.string x.f6],.pointer (some ⟨B,0,none⟩)] W
   fun e w'=>e = .returned (.bool (!gl n0 slots x))∧Below W.heap.size W w':=by
 have hne:B ≠ W.heap.size:=by omega
 unfold gl;have HC:=ia.mk (fun W'=>xE A0 A4 c0 c4 n0 n4 p1 p2 slots W' hn0 JA x.f0 x.f1 x.f2 x.f3 x.f4 x.f5 x.f6);generalize jl n0 slots x.f0 x.f1 x.f2 x.f3 x.f4 x.f5 x.f6=b at HC ⊢;go_enter Try.func117,Try.ntmps117;go_wp2_with (go_at_call 118;(with_reducible refine (HC.out _).mono ?_);rintro e w1 ⟨rfl,hb⟩;have HD:=ia.mk (Ra (oa (Below.refl _ _) _) hb);clear hb);go_ret;exact ⟨rfl,HD.out⟩
theorem yE (A0 A4 A5:Option Addr) (c0 c4 c5 n0 n4:Nat) (p1 p2 slots:Int) (l5:List ee) (j a tg els:Int) (w:World) (hn0:n0 ≤ 9223372036854775807) (JA:n4 ≤ 9223372036854775807) (hr5:Kd.C Vh w A5 l5.length l5) (hc5:l5.length ≤ c5) :
  Calls Try.prog 90 #[.agg #[.slice A0 n0 c0,.int .i64 p1,.int .i64 p2,.int .i64 slots,.slice A4 n4 c4],.agg #[.slice A5 l5.length c5,.int .i64 j,.int .i64 a,.int .i64 tg,.int .i64 els]] w fun e w'=>e = .returned (.bool (Uj n0 slots n4 l5 j a tg els))∧Below w.heap.size w w':=by
 have eg:=enters_of Try.func117 (by kernel_rfl) rfl;have hm5:=hr5.2.1;obtain ⟨W1,Pf⟩:∃ W1,W1=(w.alloc (.cells #[.slice A0 n0 c0,.int .i64 p1,.int .i64 p2,.int .i64 slots,.slice A4 n4 c4] 30 (0,0))).alloc (.cells #[.slice A5 l5.length c5,.int .i64 j,.int .i64 a,.int .i64 tg,.int .i64 els] 68 (0,0)):=⟨_,rfl⟩;have HW:=ia.mk Pf;have hB1:Below w.heap.size w W1:=by rw [Pf];exact oa (oa (Below.refl _ _) _) _
 have hz:W1.heap.size=w.heap.size + 2:=by rw [Pf];simp
 have CN:W1.cell? ⟨w.heap.size,0,none⟩=some (.slice A0 n0 c0):=by rw [Pf];simp
 have LF:W1.cell? ⟨w.heap.size,1,none⟩=some (.int .i64 p1):=by rw [Pf];simp
 have AL:W1.cell? ⟨w.heap.size,2,none⟩=some (.int .i64 p2):=by rw [Pf];simp
 have sG:W1.cell? ⟨w.heap.size,3,none⟩=some (.int .i64 slots):=by rw [Pf];simp
 have rG:W1.cell? ⟨w.heap.size,4,none⟩=some (.slice A4 n4 c4):=by rw [Pf];simp
 have hx0:W1.cell? ⟨w.heap.size + 1,0,none⟩=some (.slice A5 l5.length c5):=by rw [Pf];simp
 have hx1:W1.cell? ⟨w.heap.size + 1,1,none⟩=some (.int .i64 j):=by rw [Pf];simp
 have mj:W1.cell? ⟨w.heap.size + 1,2,none⟩=some (.int .i64 a):=by rw [Pf];simp
 have Ni:W1.cell? ⟨w.heap.size + 1,3,none⟩=some (.int .i64 tg):=by rw [Pf];simp
 have kj:W1.cell? ⟨w.heap.size + 1,4,none⟩=some (.int .i64 els):=by rw [Pf];simp
 have iE:=Kd.Eb hr5 hB1;clear Pf hr5
 have HF:=ia.mk (Jt 117 #[.pointer (some ⟨w.heap.size,0,none⟩)] (fun x=>!gl n0 slots x) eg A5 c5 l5 W1 iE hc5
  (fun W2 x hb'=>vL w.heap.size A0 A4 c0 c4 n0 n4 p1 p2 slots hn0 JA W2 x ((hb'.cell (p:=⟨w.heap.size,0,none⟩) (by simp;omega)).trans CN) ((hb'.cell (p:=⟨w.heap.size,1,none⟩) (by simp;omega)).trans LF) ((hb'.cell (p:=⟨w.heap.size,2,none⟩) (by simp;omega)).trans AL) ((hb'.cell (p:=⟨w.heap.size,3,none⟩) (by simp;omega)).trans sG) ((hb'.cell (p:=⟨w.heap.size,4,none⟩) (by simp;omega)).trans rG) (Nat.lt_of_lt_of_le (by omega) hb'.size)))
 have HB:=ia.mk hB1;clear iE hB1 eg;unfold Uj;cases hq:l5.any (fun x=>!gl n0 slots x) with
 | true =>
  rw [hq] at HF;go_enter Try.func90,Try.ntmps90
  go_upto_region 1 with (fail)
  rw [← HW.out];clear HW;go_wp2_with (first|(go_at_call 116;(with_reducible refine HF.out.mono ?_);rintro e w2 ⟨rfl,ij⟩;have Vp:=ia.mk ij;clear ij))
  all_goals
   go_ret;exact ⟨by simp,Ra HB.out Vp.out⟩
 | false =>
  rw [hq] at HF;cases ha0:decide (0 ≤ a)
  all_goals
   go_enter Try.func90,Try.ntmps90
   go_upto_region 1 with (fail)
   rw [← HW.out];clear HW
   go_upto_region 3 with (first|(go_at_call 116;(with_reducible refine HF.out.mono ?_);rintro e w2 ⟨rfl,ij⟩;replace sG:=(ij.cell (World.block_lt_of_cell? W1 _ sG)).trans sG;replace rG:=(ij.cell (World.block_lt_of_cell? W1 _ rG)).trans rG;replace hx1:=(ij.cell (World.block_lt_of_cell? W1 _ hx1)).trans hx1;replace mj:=(ij.cell (World.block_lt_of_cell? W1 _ mj)).trans mj;replace Ni:=(ij.cell (World.block_lt_of_cell? W1 _ Ni)).trans Ni;replace kj:=(ij.cell (World.block_lt_of_cell? W1 _ kj)).trans kj;have Vp:=ia.mk (Ra HB.out ij);clear ij HB CN LF AL hx0))
   go_quiet ((go_at_call 58;exact Calls.quiet_of ((Nk _ _ _ _).mono fun _ _ ⟨he,hm⟩=>⟨he,hm.out⟩)))
   go_wp2
   all_goals go_ret
   all_goals exact ⟨by first|(simp [Yj, *];done)|(simp [Yj, *];intros;omega)|(clear HF sG rG hx1 mj Ni kj;simp_all [Yj];done)|(clear HF sG rG hx1 mj Ni kj;simp_all [Yj];omega),by repeat (first|exact Vp.out|apply ja)⟩
def Ei.f (Sa:List Int) (Pa:Int) (Na:Int) (Ma:Int) (La:List (Te)) (Dc:List (ee)) (Ob:Int) (Gb:Int) (Ib:Int) (fc:Int):Option Bool:=some (Uj Sa.length Ma La.length Dc Ob Gb Ib fc)
theorem Ei.calls (xb:Option Addr) (qb:Nat) (Sa:List Int) (Pa:Int) (Na:Int) (Ma:Int) (Qb:Option Addr) (Fb:Nat) (La:List (Te)) (Ff:Option Addr) (kf:Nat) (Dc:List (ee)) (Ob:Int) (Gb:Int) (Ib:Int) (fc:Int) (r:Bool) (w:World) (zf:Kd.C (Kd.int .i64) w xb Sa.length Sa) (uf:Sa.length ≤ qb) (Ig:Kd.C Tk w Qb La.length La) (Cg:La.length ≤ Fb) (Ms:Kd.C Vh w Ff Dc.length Dc) (Qs:Dc.length ≤ kf) (h:Ei.f Sa Pa Na Ma La Dc Ob Gb Ib fc=some r) :
  Calls Try.prog 90 #[.agg #[.slice xb Sa.length qb,.int .i64 Pa,.int .i64 Na,.int .i64 Ma,.slice Qb La.length Fb],.agg #[.slice Ff Dc.length kf,.int .i64 Ob,.int .i64 Gb,.int .i64 Ib,.int .i64 fc]] w fun e w'=>e = .returned (.bool r)∧Below w.heap.size w w':=by
 injection h with h
 subst h;exact yE xb Qb Ff qb Fb kf Sa.length La.length Pa Na Ma Dc Ob Gb Ib fc w zf.2.1 Ig.2.1 Ms Qs
mutual
def Sb.j0:Nat→Bool→List Int→Int→Int→Int→List (Te)→Option (Bool)
 | 0,_,_,_,_,_,_=>none
 | k + 1,x29,Sd,ie,yd,Ld,Fc=>if x29=true then (some false) else (Sb.l0 k 0 Fc (Fc.length:Int) 0 Sd ie yd Ld Fc)
def Sb.l0:Nat→Int→List (Te)→Int→Int→List Int→Int→Int→Int→List (Te)→Option (Bool)
 | 0,_,_,_,_,_,_,_,_,_=>none
 | k + 1,x3,hU,x32,mQ,Sd,ie,yd,Ld,Fc=>if mQ < x32 then (if 0 ≤ mQ then (if mQ < (hU.length:Int) then ((Ei.f Sd ie yd Ld Fc ((Ka hU mQ).f0) ((Ka hU mQ).f1) ((Ka hU mQ).f2) ((Ka hU mQ).f3) ((Ka hU mQ).f4)).bind fun t107=>(if t107=true then (Sb.l0 k (wrap64 (x3 + (((Ka hU mQ).f0).length:Int))) hU x32 (wrap64 (mQ + 1)) Sd ie yd Ld Fc) else (some false))) else (none)) else (none)) else (some (decide (x3 ≤ 1000)))
end
def Sb.f (k:Nat) (Sa:List Int) (Pa:Int) (Na:Int) (Ma:Int) (La:List (Te)):Option (Bool):=(Lg.f Sa Pa Na ([]:List (Sw))).bind fun t102=>(if t102=true then ((mh.f Ma Na 1000).bind fun t103=>(if t103=true then ((mh.f (La.length:Int) 1 300).bind fun t104=>(Sb.j0 k (!t104) Sa Pa Na Ma La)) else (Sb.j0 k true Sa Pa Na Ma La))) else (Sb.j0 k true Sa Pa Na Ma La))
theorem Sb.calls (k:Nat) (xb:Option Addr) (qb:Nat) (Sa:List Int) (Pa:Int) (Na:Int) (Ma:Int) (Qb:Option Addr) (Fb:Nat) (La:List (Te)) (r:Bool) (w:World) (zf:Kd.C (Kd.int .i64) w xb Sa.length Sa) (uf:Sa.length ≤ qb) (Ig:Kd.C Tk w Qb La.length La) (Cg:La.length ≤ Fb) (h:Sb.f k Sa Pa Na Ma La=some r) :
  Calls Try.prog 57 #[.agg #[.slice xb Sa.length qb,.int .i64 Pa,.int .i64 Na,.int .i64 Ma,.slice Qb La.length Fb]] w fun e w'=>e = .returned (.bool r)∧Below w.heap.size w w':=by
 have ME:=Try.underlying30;have Taj:=Try.underlying124;have KE:=Try.underlying68;have Qf:=ia.mk zf;have sg:=ia.mk uf;clear zf uf;have Dh:=ia.mk Ig;have Xj:=ia.mk Cg;clear Ig Cg;have HB:=ia.mk (Below.refl w.heap.size w);have H:((Lg.f Sa Pa Na ([]:List (Sw))).bind fun t102=>(if t102=true then ((mh.f Ma Na 1000).bind fun t103=>(if t103=true then ((mh.f (La.length:Int) 1 300).bind fun t104=>(Sb.j0 k (!t104) Sa Pa Na Ma La)) else (Sb.j0 k true Sa Pa Na Ma La))) else (Sb.j0 k true Sa Pa Na Ma La)))=some r:=h;clear h;have dW:=ia.mk H;clear H;go_enter Try.func57,Try.ntmps57
 go_upto_region 1 with (first|((with_reducible refine Bb (N:=1) rfl ?_);(try (refine Fi (by rfl) ?_;dsimp only));refine Ab ?hg (N:=1) ?hd (cs:=#[.slice xb Sa.length qb,.int .i64 Pa,.int .i64 Na,.int .i64 Ma,.slice Qb La.length Fb]) (t:=30) ?hr ?_;(case hd=>rfl);(case hg=>rfl);(case hr=>first|(go_simp;done)|(go_simp;rfl));intro Da hg w3 Nb hb;have Kb:=ia.mk (Ra (by repeat (first|(with_reducible first|exact HB.out|apply oa|apply ja|apply qa)|exact HB.out)) hb);have Ub:=ia.mk (Nb);have yc:=ia.mk ((by rw [hg];exact (Qa (by repeat (first|(with_reducible first|exact HB.out|apply oa|apply ja|apply qa)|exact HB.out))):w.heap.size ≤ Da));have Tc:=ia.mk ((by rw [hg];exact (Qa (by repeat (first|(with_reducible first|exact HB.out|apply oa|apply ja|apply qa)|exact HB.out))):w.heap.size ≤ Da));clear HB;have HB:=Kb;have ta:=Ub;have Df:=yc;have Ua:=Tc;clear Kb Ub yc Tc hb Nb hg))
 (try simp only [Act.put,List.setIfInBounds_toArray,List.set_cons_zero,List.set_cons_succ])
 go_cut [29] (fun v29 wc=>∃ (kq:Nat) (KH:Bool),v29 = .bool KH∧ia (Sb.j0 kq KH Sa Pa Na Ma La=some r)∧ia (kq ≤ k)∧ia (wc.heap[Da]? = some (.cells #[(.slice xb Sa.length qb),.int .i64 Pa,.int .i64 Na,.int .i64 Ma,(.slice Qb La.length Fb)] 30 (0,0)))∧ia (Below w.heap.size w wc))
 case first =>
  have H:=dW.out;clear dW;replace H:=Option.bind_eq_some_iff.mp H;obtain ⟨t102,T9,H⟩:=H;replace H:(if t102=true then ((mh.f Ma Na 1000).bind fun t103=>(if t103=true then ((mh.f (La.length:Int) 1 300).bind fun t104=>(Sb.j0 k (!t104) Sa Pa Na Ma La)) else (Sb.j0 k true Sa Pa Na Ma La))) else (Sb.j0 k true Sa Pa Na Ma La))=some r:=H;have A4:=ia.mk T9;clear T9
  by_cases c5:t102=true
  ·subst c5;have H1:((mh.f Ma Na 1000).bind fun t103=>(if t103=true then ((mh.f (La.length:Int) 1 300).bind fun t104=>(Sb.j0 k (!t104) Sa Pa Na Ma La)) else (Sb.j0 k true Sa Pa Na Ma La)))=some r:=by rw [if_pos rfl] at H;exact H
   clear H;have H:=H1;clear H1;replace H:=Option.bind_eq_some_iff.mp H;obtain ⟨t103,fW,H⟩:=H;replace H:(if t103=true then ((mh.f (La.length:Int) 1 300).bind fun t104=>(Sb.j0 k (!t104) Sa Pa Na Ma La)) else (Sb.j0 k true Sa Pa Na Ma La))=some r:=H;have A6:=ia.mk fW;clear fW
   by_cases c7:t103=true
   ·subst c7;have H1:((mh.f (La.length:Int) 1 300).bind fun t104=>(Sb.j0 k (!t104) Sa Pa Na Ma La))=some r:=by rw [if_pos rfl] at H;exact H
    clear H;have H:=H1;clear H1;replace H:=Option.bind_eq_some_iff.mp H;obtain ⟨t104,jQ,H⟩:=H;replace H:(Sb.j0 k (!t104) Sa Pa Na Ma La)=some r:=H;have A8:=ia.mk jQ;clear jQ;have H':=ia.mk H;clear H;have Kw:w3.cell? ⟨Da,0,none⟩=some (.slice xb Sa.length qb):=(ga ta.out 0).trans rfl;have Jw:w3.cell? ⟨Da,1,none⟩=some (.int .i64 Pa):=(ga ta.out 1).trans rfl;have Iw:w3.cell? ⟨Da,2,none⟩=some (.int .i64 Na):=(ga ta.out 2).trans rfl;have Hw:w3.cell? ⟨Da,3,none⟩=some (.int .i64 Ma):=(ga ta.out 3).trans rfl;have Gw:w3.cell? ⟨Da,4,none⟩=some (.slice Qb La.length Fb):=(ga ta.out 4).trans rfl;have Ew:=aa ta.out 0;have Dw:=aa ta.out 1;have Cw:=aa ta.out 2;have Bw:=aa ta.out 3;have Aw:=aa ta.out 4;go_wp2_with (first|((with_reducible refine jb (f:=89) rfl ?_);refine Lc (some 13) rfl rfl Try.func89 (by kernel_rfl) rfl #[.agg #[.slice xb Sa.length qb,.int .i64 Pa,.int .i64 Na,.slice none 0 0]] rfl (by (try simp only [List.map_toArray,List.map_cons,List.map_nil]);first|done|rfl|(simp only [List.length_drop,List.length_take];rfl)) ?_;(refine (Lg.calls _ _ Sa Pa Na _ _ ([]:List (Sw)) true _ ?Pc ?Oc ?Hf ?Gf A4.out).mono ?_);(case Pc=>repeat (first|exact (Kd.Eb Qf.out HB.out)|(with_reducible refine Kd.nc ?_ _)|(with_reducible refine Kd.mc ?_ _)|(with_reducible refine Kd.Rc ?_)));(case Oc=>exact sg.out);(case Hf=>exact Kd.WK _ _);(case Gf=>exact Nat.le_refl _);rintro e Rp ⟨rfl,hb⟩;refine ⟨_,rfl,?_⟩;have Kb:=ia.mk (Ta (g:=Da) (o:=.cells #[.slice xb Sa.length qb,.int .i64 Pa,.int .i64 Na,.int .i64 Ma,.slice Qb La.length Fb] 30 (0,0)) (by (with_reducible repeat (first|refine Aa ?_ _|refine Ca ?_|refine za ?_ _));exact ta.out) hb);have Ub:=ia.mk (Ra (by repeat (first|(with_reducible first|exact HB.out|apply oa|apply ja|apply qa|refine ua ?_ Ua.out)|exact HB.out)) hb);clear ta HB;have ta:=Kb;have HB:=Ub;clear Kb Ub;(try clear hb);(try clear ij);(try clear hk);(try clear hi);have Yv:Rp.cell? ⟨Da,0,none⟩=some (.slice xb Sa.length qb):=(ga ta.out 0).trans rfl;have Xv:Rp.cell? ⟨Da,1,none⟩=some (.int .i64 Pa):=(ga ta.out 1).trans rfl;have Wv:Rp.cell? ⟨Da,2,none⟩=some (.int .i64 Na):=(ga ta.out 2).trans rfl;have Vv:Rp.cell? ⟨Da,3,none⟩=some (.int .i64 Ma):=(ga ta.out 3).trans rfl;have Uv:Rp.cell? ⟨Da,4,none⟩=some (.slice Qb La.length Fb):=(ga ta.out 4).trans rfl;have wv:=aa ta.out 0;have vv:=aa ta.out 1;have uv:=aa ta.out 2;have tv:=aa ta.out 3;have qv:=aa ta.out 4)|(go_at_call 58;(with_reducible refine (mh.calls Ma Na 1000 true _ A6.out).mono ?_);rintro e w' ⟨rfl,⟨nd,rfl⟩⟩)|(go_at_call 58;(with_reducible refine (mh.calls (La.length:Int) 1 300 t104 _ A8.out).mono ?_);rintro e w' ⟨rfl,⟨nd,rfl⟩⟩))
    go_meet
    case rel=>exact ⟨_,(!t104),(by first|rfl|(simp;done)|(simp [*];done)),H',⟨by first|omega|exact Nat.le_refl _⟩,⟨by (with_reducible repeat (first|refine Aa ?_ _|refine Ca ?_|refine za ?_ _));exact ta.out⟩,⟨by repeat (first|(with_reducible first|exact HB.out|apply oa|apply ja|apply qa|refine ua ?_ Ua.out)|exact HB.out)⟩⟩
   ·replace c7:=Bool.eq_false_iff.mpr c7;subst c7;have H1:(Sb.j0 k true Sa Pa Na Ma La)=some r:=by rw [if_neg (show ¬ (false=true) by decide)] at H;exact H
    clear H;have H:=H1;clear H1;have H':=ia.mk H;clear H;have Gy:w3.cell? ⟨Da,0,none⟩=some (.slice xb Sa.length qb):=(ga ta.out 0).trans rfl;have Fy:w3.cell? ⟨Da,1,none⟩=some (.int .i64 Pa):=(ga ta.out 1).trans rfl;have Ey:w3.cell? ⟨Da,2,none⟩=some (.int .i64 Na):=(ga ta.out 2).trans rfl;have Dy:w3.cell? ⟨Da,3,none⟩=some (.int .i64 Ma):=(ga ta.out 3).trans rfl;have Cy:w3.cell? ⟨Da,4,none⟩=some (.slice Qb La.length Fb):=(ga ta.out 4).trans rfl;have gy:=aa ta.out 0;have fy:=aa ta.out 1;have ey:=aa ta.out 2;have dy:=aa ta.out 3;have cy:=aa ta.out 4;go_wp2_with (first|((with_reducible refine jb (f:=89) rfl ?_);refine Lc (some 13) rfl rfl Try.func89 (by kernel_rfl) rfl #[.agg #[.slice xb Sa.length qb,.int .i64 Pa,.int .i64 Na,.slice none 0 0]] rfl (by (try simp only [List.map_toArray,List.map_cons,List.map_nil]);first|done|rfl|(simp only [List.length_drop,List.length_take];rfl)) ?_;(refine (Lg.calls _ _ Sa Pa Na _ _ ([]:List (Sw)) true _ ?Pc ?Oc ?Hf ?Gf A4.out).mono ?_);(case Pc=>repeat (first|exact (Kd.Eb Qf.out HB.out)|(with_reducible refine Kd.nc ?_ _)|(with_reducible refine Kd.mc ?_ _)|(with_reducible refine Kd.Rc ?_)));(case Oc=>exact sg.out);(case Hf=>exact Kd.WK _ _);(case Gf=>exact Nat.le_refl _);rintro e mE ⟨rfl,hb⟩;refine ⟨_,rfl,?_⟩;have Kb:=ia.mk (Ta (g:=Da) (o:=.cells #[.slice xb Sa.length qb,.int .i64 Pa,.int .i64 Na,.int .i64 Ma,.slice Qb La.length Fb] 30 (0,0)) (by (with_reducible repeat (first|refine Aa ?_ _|refine Ca ?_|refine za ?_ _));exact ta.out) hb);have Ub:=ia.mk (Ra (by repeat (first|(with_reducible first|exact HB.out|apply oa|apply ja|apply qa|refine ua ?_ Ua.out)|exact HB.out)) hb);clear ta HB;have ta:=Kb;have HB:=Ub;clear Kb Ub;(try clear hb);(try clear ij);(try clear hk);(try clear hi);have Xm:mE.cell? ⟨Da,0,none⟩=some (.slice xb Sa.length qb):=(ga ta.out 0).trans rfl;have Wm:mE.cell? ⟨Da,1,none⟩=some (.int .i64 Pa):=(ga ta.out 1).trans rfl;have Vm:mE.cell? ⟨Da,2,none⟩=some (.int .i64 Na):=(ga ta.out 2).trans rfl;have Um:mE.cell? ⟨Da,3,none⟩=some (.int .i64 Ma):=(ga ta.out 3).trans rfl;have Sm:mE.cell? ⟨Da,4,none⟩=some (.slice Qb La.length Fb):=(ga ta.out 4).trans rfl;have Rm:=aa ta.out 0;have Qm:=aa ta.out 1;have Pm:=aa ta.out 2;have Om:=aa ta.out 3;have Nm:=aa ta.out 4)|(go_at_call 58;(with_reducible refine (mh.calls Ma Na 1000 false _ A6.out).mono ?_);rintro e w' ⟨rfl,⟨nd,rfl⟩⟩))
    go_meet
    case rel=>exact ⟨_,(true),(by first|rfl|(simp;done)|(simp [*];done)),H',⟨by first|omega|exact Nat.le_refl _⟩,⟨by (with_reducible repeat (first|refine Aa ?_ _|refine Ca ?_|refine za ?_ _));exact ta.out⟩,⟨by repeat (first|(with_reducible first|exact HB.out|apply oa|apply ja|apply qa|refine ua ?_ Ua.out)|exact HB.out)⟩⟩
  ·replace c5:=Bool.eq_false_iff.mpr c5;subst c5;have H1:(Sb.j0 k true Sa Pa Na Ma La)=some r:=by rw [if_neg (show ¬ (false=true) by decide)] at H;exact H
   clear H;have H:=H1;clear H1;have H':=ia.mk H;clear H;have uD:w3.cell? ⟨Da,0,none⟩=some (.slice xb Sa.length qb):=(ga ta.out 0).trans rfl;have tD:w3.cell? ⟨Da,1,none⟩=some (.int .i64 Pa):=(ga ta.out 1).trans rfl;have sD:w3.cell? ⟨Da,2,none⟩=some (.int .i64 Na):=(ga ta.out 2).trans rfl;have rD:w3.cell? ⟨Da,3,none⟩=some (.int .i64 Ma):=(ga ta.out 3).trans rfl;have qD:w3.cell? ⟨Da,4,none⟩=some (.slice Qb La.length Fb):=(ga ta.out 4).trans rfl;have oC:=aa ta.out 0;have nC:=aa ta.out 1;have mC:=aa ta.out 2;have lC:=aa ta.out 3;have kC:=aa ta.out 4;go_wp2_with (first|((with_reducible refine jb (f:=89) rfl ?_);refine Lc (some 13) rfl rfl Try.func89 (by kernel_rfl) rfl #[.agg #[.slice xb Sa.length qb,.int .i64 Pa,.int .i64 Na,.slice none 0 0]] rfl (by (try simp only [List.map_toArray,List.map_cons,List.map_nil]);first|done|rfl|(simp only [List.length_drop,List.length_take];rfl)) ?_;(refine (Lg.calls _ _ Sa Pa Na _ _ ([]:List (Sw)) false _ ?Pc ?Oc ?Hf ?Gf A4.out).mono ?_);(case Pc=>repeat (first|exact (Kd.Eb Qf.out HB.out)|(with_reducible refine Kd.nc ?_ _)|(with_reducible refine Kd.mc ?_ _)|(with_reducible refine Kd.Rc ?_)));(case Oc=>exact sg.out);(case Hf=>exact Kd.WK _ _);(case Gf=>exact Nat.le_refl _);rintro e qA ⟨rfl,hb⟩;refine ⟨_,rfl,?_⟩;have Kb:=ia.mk (Ta (g:=Da) (o:=.cells #[.slice xb Sa.length qb,.int .i64 Pa,.int .i64 Na,.int .i64 Ma,.slice Qb La.length Fb] 30 (0,0)) (by (with_reducible repeat (first|refine Aa ?_ _|refine Ca ?_|refine za ?_ _));exact ta.out) hb);have Ub:=ia.mk (Ra (by repeat (first|(with_reducible first|exact HB.out|apply oa|apply ja|apply qa|refine ua ?_ Ua.out)|exact HB.out)) hb);clear ta HB;have ta:=Kb;have HB:=Ub;clear Kb Ub;(try clear hb);(try clear ij);(try clear hk);(try clear hi)))
   go_meet
   case rel=>exact ⟨_,(true),(by first|rfl|(simp;done)|(simp [*];done)),H',⟨by first|omega|exact Nat.le_refl _⟩,⟨by (with_reducible repeat (first|refine Aa ?_ _|refine Ca ?_|refine za ?_ _));exact ta.out⟩,⟨by repeat (first|(with_reducible first|exact HB.out|apply oa|apply ja|apply qa|refine ua ?_ Ua.out)|exact HB.out)⟩⟩
 case rest =>
  clear dW
  try clear p2
  try clear c5
  try clear c7
  try clear c8
  try clear Yv
  try clear Xv
  try clear Wv
  try clear Vv
  try clear Uv
  try clear Gy
  try clear Fy
  try clear Ey
  try clear Dy
  try clear Cy
  try clear Xm
  try clear Wm
  try clear Vm
  try clear Um
  try clear Sm
  try clear uD
  try clear tD
  try clear sD
  try clear rD
  try clear qD
  try clear Kw
  try clear Jw
  try clear Iw
  try clear Hw
  try clear Gw
  try clear wv
  try clear vv
  try clear uv
  try clear tv
  try clear qv
  try clear gy
  try clear fy
  try clear ey
  try clear dy
  try clear cy
  try clear Rm
  try clear Qm
  try clear Pm
  try clear Om
  try clear Nm
  try clear oC
  try clear nC
  try clear mC
  try clear lC
  try clear kC
  try clear Ew
  try clear Dw
  try clear Cw
  try clear Bw
  try clear Aw
  obtain ⟨kq,KH,rfl,HA,HJ1,ta,HB⟩:=hcut;cases kq with
  | zero=>exact absurd HA.out (by simp [Sb.j0])
  | succ kj1 =>
   have H:=HA.out;clear HA;simp only [Sb.j0] at H
   by_cases UA:KH=true
   ·subst UA;have H1:(some false)=some r:=by rw [if_pos rfl] at H;exact H
    clear H;have H:=H1;clear H1;obtain rfl:=Option.some.inj H;go_wp2;go_ret;exact ⟨by first|rfl|(simp [Ja,Ia] <;> rfl)|(simp [*,Ja,Ia] <;> rfl),by repeat (first|(with_reducible first|exact HB.out|apply oa|apply ja|apply qa|refine ua ?_ Ua.out)|exact HB.out)⟩
   ·replace UA:=Bool.eq_false_iff.mpr UA;subst UA;have H1:(Sb.l0 kj1 0 La (La.length:Int) 0 Sa Pa Na Ma La)=some r:=by rw [if_neg (show ¬ (false=true) by decide)] at H;exact H
    clear H;have H:=H1;clear H1;have H':=ia.mk H;clear H;have Nr:wc.cell? ⟨Da,0,none⟩=some (.slice xb Sa.length qb):=(ga ta.out 0).trans rfl;have Mr:wc.cell? ⟨Da,1,none⟩=some (.int .i64 Pa):=(ga ta.out 1).trans rfl;have Lr:wc.cell? ⟨Da,2,none⟩=some (.int .i64 Na):=(ga ta.out 2).trans rfl;have Kr:wc.cell? ⟨Da,3,none⟩=some (.int .i64 Ma):=(ga ta.out 3).trans rfl;have Jr:wc.cell? ⟨Da,4,none⟩=some (.slice Qb La.length Fb):=(ga ta.out 4).trans rfl;have ir:=aa ta.out 0;have gr:=aa ta.out 1;have er:=aa ta.out 2;have dr:=aa ta.out 3;have cr:=aa ta.out 4;go_wp2
    go_loopg [3,33] kj1 (fun kq v3 v33 w'=>∃ (ZK:Int) (Yd:Int),v3 = .int .i64 ZK∧v33 = .int .i64 Yd∧ia (Sb.l0 kq ZK La (La.length:Int) Yd Sa Pa Na Ma La=some r)∧ia (kq ≤ kj1)∧ia (w'.heap[Da]? = some (.cells #[(.slice xb Sa.length qb),.int .i64 Pa,.int .i64 Na,.int .i64 Ma,(.slice Qb La.length Fb)] 30 (0,0)))∧ia (Below w.heap.size w w'))
    case atStart=>exact ⟨(0),(0),(by first|rfl|(simp;done)|(simp [*];done)),(by first|rfl|(simp;done)|(simp [*];done)),H',⟨Nat.le_refl _⟩,⟨by (with_reducible repeat (first|refine Aa ?_ _|refine Ca ?_|refine za ?_ _));exact ta.out⟩,⟨by repeat (first|(with_reducible first|exact HB.out|apply oa|apply ja|apply qa|refine ua ?_ Ua.out)|exact HB.out)⟩⟩
    case round =>
     clear H'
     try clear c1
     try clear p2
     try clear c5
     try clear c7
     try clear c8
     try clear UA
     try clear Yv
     try clear Xv
     try clear Wv
     try clear Vv
     try clear Uv
     try clear Gy
     try clear Fy
     try clear Ey
     try clear Dy
     try clear Cy
     try clear Xm
     try clear Wm
     try clear Vm
     try clear Um
     try clear Sm
     try clear uD
     try clear tD
     try clear sD
     try clear rD
     try clear qD
     try clear Nr
     try clear Mr
     try clear Lr
     try clear Kr
     try clear Jr
     try clear Kw
     try clear Jw
     try clear Iw
     try clear Hw
     try clear Gw
     try clear wv
     try clear vv
     try clear uv
     try clear tv
     try clear qv
     try clear gy
     try clear fy
     try clear ey
     try clear dy
     try clear cy
     try clear Rm
     try clear Qm
     try clear Pm
     try clear Om
     try clear Nm
     try clear oC
     try clear nC
     try clear mC
     try clear lC
     try clear kC
     try clear ir
     try clear gr
     try clear er
     try clear dr
     try clear cr
     try clear Ew
     try clear Dw
     try clear Cw
     try clear Bw
     try clear Aw
     try clear p2
     (try clear HA);(try clear RY);(try clear ta);(try clear HB);obtain ⟨ZK,Yd,rfl,rfl,HA,RY,ta,HB⟩:=hrel;cases gk with
     | zero=>exact absurd HA.out (by simp [Sb.l0])
     | succ k2 =>
      have H:=HA.out;clear HA;simp only [Sb.l0] at H
      by_cases Rs:Yd < (La.length:Int)
      ·rw [if_pos Rs] at H;have TA:decide (Yd < (La.length:Int))=true:=decide_eq_true Rs;clear Rs
       by_cases fA:0 ≤ Yd
       ·rw [if_pos fA] at H;have y8:decide (0 ≤ Yd)=true:=decide_eq_true fA;clear fA
        by_cases sx:Yd < (La.length:Int)
        ·rw [if_pos sx] at H;have vK:decide (Yd < (La.length:Int))=true:=decide_eq_true sx;clear sx;replace H:=Option.bind_eq_some_iff.mp H;obtain ⟨t107,X9,H⟩:=H;replace H:(if t107=true then (Sb.l0 k2 (wrap64 (ZK + (((Ka La Yd).f0).length:Int))) La (La.length:Int) (wrap64 (Yd + 1)) Sa Pa Na Ma La) else (some false))=some r:=H;have A22:=ia.mk X9;clear X9
         by_cases zT:t107=true
         ·subst zT;have H1:(Sb.l0 k2 (wrap64 (ZK + (((Ka La Yd).f0).length:Int))) La (La.length:Int) (wrap64 (Yd + 1)) Sa Pa Na Ma La)=some r:=by rw [if_pos rfl] at H;exact H
          clear H;have H:=H1;clear H1;have H':=ia.mk H;clear H;have si:0 ≤ (Yd:Int):=of_decide_eq_true (by first|(with_reducible assumption)|assumption);have ri:Yd < (La.length:Int):=of_decide_eq_true (by first|(with_reducible assumption)|assumption);obtain ⟨Rh,ak,Zj,Hp,Je,kg,jg,ig,dg,Wi,Zi⟩:=Zf Dh.out Yd si ri;cases Hp;replace Je:=Ba HB.out Je;replace kg:=Ba HB.out kg;replace jg:=Ba HB.out jg;replace ig:=Ba HB.out ig;replace dg:=Ba HB.out dg;have Wr:=ia.mk Zi;have Xr:=ia.mk Wi;clear Zi Wi;replace si:=eq_true si;replace ri:=eq_true ri;go_wp2_with (first|((with_reducible refine Bb (N:=5) rfl ?_);(try (refine Fi (by rfl) ?_;dsimp only));refine Ab ?hg (N:=5) ?hd (cs:=#[.slice none 0 0,.int .i64 0,.int .i64 0,.int .i64 0,.int .i64 0]) (t:=68) ?hr ?_;(case hd=>rfl);(case hg=>rfl);(case hr=>first|(go_simp;done)|(go_simp;rfl));intro ck hg rQ Nb hb;have Kb:=ia.mk (Ta (g:=Da) (o:=.cells #[.slice xb Sa.length qb,.int .i64 Pa,.int .i64 Na,.int .i64 Ma,.slice (some Rh) La.length Fb] 30 (0,0)) (by (with_reducible repeat (first|refine Aa ?_ _|refine Ca ?_|refine za ?_ _));exact ta.out) hb);have Ub:=ia.mk (Ra (by repeat (first|(with_reducible first|exact HB.out|apply oa|apply ja|apply qa|refine ua ?_ Ua.out)|exact HB.out)) hb);have yc:=ia.mk (Nb);have Tc:=ia.mk ((by rw [hg];exact (Qa (by repeat (first|(with_reducible first|exact HB.out|apply oa|apply ja|apply qa|refine ua ?_ Ua.out)|exact HB.out))):w.heap.size ≤ ck));have tf:=ia.mk ((by rw [hg];exact (Qa (by repeat (first|(with_reducible first|exact HB.out|apply oa|apply ja|apply qa|refine ua ?_ Ua.out)|exact HB.out))):w.heap.size ≤ ck));have Tf:=ia.mk ((by rw [hg];exact Nat.ne_of_lt (Wb (g:=Da) (o:=.cells #[.slice xb Sa.length qb,.int .i64 Pa,.int .i64 Na,.int .i64 Ma,.slice (some Rh) La.length Fb] 30 (0,0)) (by (with_reducible repeat (first|refine Aa ?_ _|refine Ca ?_|refine za ?_ _));exact ta.out)):Da ≠ ck));have cg:=ia.mk ((by rw [hg];exact Nat.ne_of_gt (Wb (g:=Da) (o:=.cells #[.slice xb Sa.length qb,.int .i64 Pa,.int .i64 Na,.int .i64 Ma,.slice (some Rh) La.length Fb] 30 (0,0)) (by (with_reducible repeat (first|refine Aa ?_ _|refine Ca ?_|refine za ?_ _));exact ta.out)):ck ≠ Da));clear ta HB;have ta:=Kb;have HB:=Ub;have qi:=yc;have P9:=Tc;have Fq:=tf;have yh:=Tf;have Uw:=cg;clear Kb Ub yc Tc tf Tf cg hb Nb hg;have yN:=Uw.out;have vN:=yh.out;have Jv:rQ.cell? ⟨ck,0,none⟩=some (.slice none 0 0):=(ga qi.out 0).trans rfl;have Iv:rQ.cell? ⟨ck,1,none⟩=some (.int .i64 0):=(ga qi.out 1).trans rfl;have Hv:rQ.cell? ⟨ck,2,none⟩=some (.int .i64 0):=(ga qi.out 2).trans rfl;have Gv:rQ.cell? ⟨ck,3,none⟩=some (.int .i64 0):=(ga qi.out 3).trans rfl;have Fv:rQ.cell? ⟨ck,4,none⟩=some (.int .i64 0):=(ga qi.out 4).trans rfl;have Vu:=aa qi.out 0;have Uu:=aa qi.out 1;have Tu:=aa qi.out 2;have Su:=aa qi.out 3;have Ru:=aa qi.out 4;have Cr:rQ.cell? ⟨Da,0,none⟩=some (.slice xb Sa.length qb):=(ga ta.out 0).trans rfl;have Br:rQ.cell? ⟨Da,1,none⟩=some (.int .i64 Pa):=(ga ta.out 1).trans rfl;have Ar:rQ.cell? ⟨Da,2,none⟩=some (.int .i64 Na):=(ga ta.out 2).trans rfl;have vr:rQ.cell? ⟨Da,3,none⟩=some (.int .i64 Ma):=(ga ta.out 3).trans rfl;have ur:rQ.cell? ⟨Da,4,none⟩=some (.slice (some Rh) La.length Fb):=(ga ta.out 4).trans rfl;have Vq:=aa ta.out 0;have Uq:=aa ta.out 1;have Sq:=aa ta.out 2;have Rq:=aa ta.out 3;have Qq:=aa ta.out 4)|((with_reducible refine jb (f:=90) rfl ?_);refine Lc (some 44) rfl rfl Try.func90 (by kernel_rfl) rfl #[.agg #[.slice xb Sa.length qb,.int .i64 Pa,.int .i64 Na,.int .i64 Ma,.slice (some Rh) La.length Fb],.agg #[.slice ak ((Ka La Yd).f0).length Zj,.int .i64 ((Ka La Yd).f1),.int .i64 ((Ka La Yd).f2),.int .i64 ((Ka La Yd).f3),.int .i64 ((Ka La Yd).f4)]] rfl (by (try simp only [List.map_toArray,List.map_cons,List.map_nil]);first|done|rfl|(simp only [List.length_drop,List.length_take];rfl)) ?_;(with_reducible refine (Ei.calls _ _ Sa Pa Na Ma _ _ La _ _ ((Ka La Yd).f0) ((Ka La Yd).f1) ((Ka La Yd).f2) ((Ka La Yd).f3) ((Ka La Yd).f4) true _ ?Pc ?Oc ?Hf ?Gf ?Yy ?Xy A22.out).mono ?_);(case Pc=>exact Kd.Eb Qf.out (by repeat (first|(with_reducible first|exact HB.out|apply oa|apply ja|apply qa|refine ua ?_ Ua.out|refine ua ?_ Fq.out)|exact HB.out)));(case Oc=>exact sg.out);(case Hf=>exact Kd.Eb Dh.out (by repeat (first|(with_reducible first|exact HB.out|apply oa|apply ja|apply qa|refine ua ?_ Ua.out|refine ua ?_ Fq.out)|exact HB.out)));(case Gf=>exact Xj.out);(case Yy=>exact Kd.Eb Wr.out (by repeat (first|(with_reducible first|exact HB.out|apply oa|apply ja|apply qa|refine ua ?_ Ua.out|refine ua ?_ Fq.out)|exact HB.out)));(case Xy=>exact Xr.out);rintro e qw ⟨rfl,hb⟩;refine ⟨_,rfl,?_⟩;have Kb:=ia.mk (Ta (g:=Da) (o:=.cells #[.slice xb Sa.length qb,.int .i64 Pa,.int .i64 Na,.int .i64 Ma,.slice (some Rh) La.length Fb] 30 (0,0)) (by (with_reducible repeat (first|refine Aa ?_ _|refine Ca ?_|refine za ?_ _));refine Db ?_ yh.out _;(with_reducible repeat (first|refine Aa ?_ _|refine Ca ?_|refine za ?_ _));refine Db ?_ yh.out _;(with_reducible repeat (first|refine Aa ?_ _|refine Ca ?_|refine za ?_ _));refine Db ?_ yh.out _;(with_reducible repeat (first|refine Aa ?_ _|refine Ca ?_|refine za ?_ _));refine Db ?_ yh.out _;(with_reducible repeat (first|refine Aa ?_ _|refine Ca ?_|refine za ?_ _));refine Db ?_ yh.out _;(with_reducible repeat (first|refine Aa ?_ _|refine Ca ?_|refine za ?_ _));exact ta.out) hb);have Ub:=ia.mk (Ta (g:=ck) (o:=.cells #[.slice ak ((Ka La Yd).f0).length Zj,.int .i64 ((Ka La Yd).f1),.int .i64 ((Ka La Yd).f2),.int .i64 ((Ka La Yd).f3),.int .i64 ((Ka La Yd).f4)] 68 (0,0)) (by (with_reducible repeat (first|refine Aa ?_ _|refine Ca ?_|refine za ?_ _));refine zb (cs:=#[.slice ak ((Ka La Yd).f0).length Zj,.int .i64 ((Ka La Yd).f1),.int .i64 ((Ka La Yd).f2),.int .i64 ((Ka La Yd).f3),.int .i64 0]) ?_ 4 _ rfl;(with_reducible repeat (first|refine Aa ?_ _|refine Ca ?_|refine za ?_ _));refine zb (cs:=#[.slice ak ((Ka La Yd).f0).length Zj,.int .i64 ((Ka La Yd).f1),.int .i64 ((Ka La Yd).f2),.int .i64 0,.int .i64 0]) ?_ 3 _ rfl;(with_reducible repeat (first|refine Aa ?_ _|refine Ca ?_|refine za ?_ _));refine zb (cs:=#[.slice ak ((Ka La Yd).f0).length Zj,.int .i64 ((Ka La Yd).f1),.int .i64 0,.int .i64 0,.int .i64 0]) ?_ 2 _ rfl;(with_reducible repeat (first|refine Aa ?_ _|refine Ca ?_|refine za ?_ _));refine zb (cs:=#[.slice ak ((Ka La Yd).f0).length Zj,.int .i64 0,.int .i64 0,.int .i64 0,.int .i64 0]) ?_ 1 _ rfl;(with_reducible repeat (first|refine Aa ?_ _|refine Ca ?_|refine za ?_ _));refine zb (cs:=#[.slice none 0 0,.int .i64 0,.int .i64 0,.int .i64 0,.int .i64 0]) ?_ 0 _ rfl;(with_reducible repeat (first|refine Aa ?_ _|refine Ca ?_|refine za ?_ _));exact qi.out) hb);have yc:=ia.mk (Ra (by repeat (first|(with_reducible first|exact HB.out|apply oa|apply ja|apply qa|refine ua ?_ Ua.out|refine ua ?_ Fq.out)|exact HB.out)) hb);clear ta qi HB;have ta:=Kb;have qi:=Ub;have HB:=yc;clear Kb Ub yc;(try clear hb);(try clear ij);(try clear hk);(try clear hi)))
          go_roundg k2
          case measure=>have:=HJ1.out;have:=RY.out;omega
          case rel=>exact ⟨(wrap64 (ZK + (((Ka La Yd).f0).length:Int))),(wrap64 (Yd + 1)),(by first|rfl|(simp;done)|(simp [*];done)),(by first|rfl|(simp;done)|(simp [*];done)),H',⟨by have:=HJ1.out;have:=RY.out;omega⟩,⟨by (with_reducible repeat (first|refine Aa ?_ _|refine Ca ?_|refine za ?_ _));exact ta.out⟩,⟨by repeat (first|(with_reducible first|exact HB.out|apply oa|apply ja|apply qa|refine ua ?_ Ua.out|refine ua ?_ Fq.out)|exact HB.out)⟩⟩
         ·replace zT:=Bool.eq_false_iff.mpr zT;subst zT;have H1:(some false)=some r:=by rw [if_neg (show ¬ (false=true) by decide)] at H;exact H
          clear H;have H:=H1;clear H1;obtain rfl:=Option.some.inj H;have si:0 ≤ (Yd:Int):=of_decide_eq_true (by first|(with_reducible assumption)|assumption);have ri:Yd < (La.length:Int):=of_decide_eq_true (by first|(with_reducible assumption)|assumption);obtain ⟨Rh,ak,Zj,Hp,Je,kg,jg,ig,dg,Wi,Zi⟩:=Zf Dh.out Yd si ri;cases Hp;replace Je:=Ba HB.out Je;replace kg:=Ba HB.out kg;replace jg:=Ba HB.out jg;replace ig:=Ba HB.out ig;replace dg:=Ba HB.out dg;have Wr:=ia.mk Zi;have Xr:=ia.mk Wi;clear Zi Wi;replace si:=eq_true si;replace ri:=eq_true ri;go_wp2_with (first|((with_reducible refine Bb (N:=5) rfl ?_);(try (refine Fi (by rfl) ?_;dsimp only));refine Ab ?hg (N:=5) ?hd (cs:=#[.slice none 0 0,.int .i64 0,.int .i64 0,.int .i64 0,.int .i64 0]) (t:=68) ?hr ?_;(case hd=>rfl);(case hg=>rfl);(case hr=>first|(go_simp;done)|(go_simp;rfl));intro ck hg qQ Nb hb;have Kb:=ia.mk (Ta (g:=Da) (o:=.cells #[.slice xb Sa.length qb,.int .i64 Pa,.int .i64 Na,.int .i64 Ma,.slice (some Rh) La.length Fb] 30 (0,0)) (by (with_reducible repeat (first|refine Aa ?_ _|refine Ca ?_|refine za ?_ _));exact ta.out) hb);have Ub:=ia.mk (Ra (by repeat (first|(with_reducible first|exact HB.out|apply oa|apply ja|apply qa|refine ua ?_ Ua.out)|exact HB.out)) hb);have yc:=ia.mk (Nb);have Tc:=ia.mk ((by rw [hg];exact (Qa (by repeat (first|(with_reducible first|exact HB.out|apply oa|apply ja|apply qa|refine ua ?_ Ua.out)|exact HB.out))):w.heap.size ≤ ck));have tf:=ia.mk ((by rw [hg];exact (Qa (by repeat (first|(with_reducible first|exact HB.out|apply oa|apply ja|apply qa|refine ua ?_ Ua.out)|exact HB.out))):w.heap.size ≤ ck));have Tf:=ia.mk ((by rw [hg];exact Nat.ne_of_lt (Wb (g:=Da) (o:=.cells #[.slice xb Sa.length qb,.int .i64 Pa,.int .i64 Na,.int .i64 Ma,.slice (some Rh) La.length Fb] 30 (0,0)) (by (with_reducible repeat (first|refine Aa ?_ _|refine Ca ?_|refine za ?_ _));exact ta.out)):Da ≠ ck));have cg:=ia.mk ((by rw [hg];exact Nat.ne_of_gt (Wb (g:=Da) (o:=.cells #[.slice xb Sa.length qb,.int .i64 Pa,.int .i64 Na,.int .i64 Ma,.slice (some Rh) La.length Fb] 30 (0,0)) (by (with_reducible repeat (first|refine Aa ?_ _|refine Ca ?_|refine za ?_ _));exact ta.out)):ck ≠ Da));clear ta HB;have ta:=Kb;have HB:=Ub;have qi:=yc;have P9:=Tc;have Fq:=tf;have yh:=Tf;have Uw:=cg;clear Kb Ub yc Tc tf Tf cg hb Nb hg;have B1:=Uw.out;have K0:=yh.out;have jD:qQ.cell? ⟨ck,0,none⟩=some (.slice none 0 0):=(ga qi.out 0).trans rfl;have iD:qQ.cell? ⟨ck,1,none⟩=some (.int .i64 0):=(ga qi.out 1).trans rfl;have hD:qQ.cell? ⟨ck,2,none⟩=some (.int .i64 0):=(ga qi.out 2).trans rfl;have gD:qQ.cell? ⟨ck,3,none⟩=some (.int .i64 0):=(ga qi.out 3).trans rfl;have fD:qQ.cell? ⟨ck,4,none⟩=some (.int .i64 0):=(ga qi.out 4).trans rfl;have cC:=aa qi.out 0;have bC:=aa qi.out 1;have aC:=aa qi.out 2;have ZB:=aa qi.out 3;have YB:=aa qi.out 4;have yy:qQ.cell? ⟨Da,0,none⟩=some (.slice xb Sa.length qb):=(ga ta.out 0).trans rfl;have xy:qQ.cell? ⟨Da,1,none⟩=some (.int .i64 Pa):=(ga ta.out 1).trans rfl;have uy:qQ.cell? ⟨Da,2,none⟩=some (.int .i64 Na):=(ga ta.out 2).trans rfl;have sy:qQ.cell? ⟨Da,3,none⟩=some (.int .i64 Ma):=(ga ta.out 3).trans rfl;have ry:qQ.cell? ⟨Da,4,none⟩=some (.slice (some Rh) La.length Fb):=(ga ta.out 4).trans rfl;have Yx:=aa ta.out 0;have Xx:=aa ta.out 1;have Wx:=aa ta.out 2;have Vx:=aa ta.out 3;have Ux:=aa ta.out 4)|((with_reducible refine jb (f:=90) rfl ?_);refine Lc (some 44) rfl rfl Try.func90 (by kernel_rfl) rfl #[.agg #[.slice xb Sa.length qb,.int .i64 Pa,.int .i64 Na,.int .i64 Ma,.slice (some Rh) La.length Fb],.agg #[.slice ak ((Ka La Yd).f0).length Zj,.int .i64 ((Ka La Yd).f1),.int .i64 ((Ka La Yd).f2),.int .i64 ((Ka La Yd).f3),.int .i64 ((Ka La Yd).f4)]] rfl (by (try simp only [List.map_toArray,List.map_cons,List.map_nil]);first|done|rfl|(simp only [List.length_drop,List.length_take];rfl)) ?_;(with_reducible refine (Ei.calls _ _ Sa Pa Na Ma _ _ La _ _ ((Ka La Yd).f0) ((Ka La Yd).f1) ((Ka La Yd).f2) ((Ka La Yd).f3) ((Ka La Yd).f4) false _ ?Pc ?Oc ?Hf ?Gf ?Yy ?Xy A22.out).mono ?_);(case Pc=>exact Kd.Eb Qf.out (by repeat (first|(with_reducible first|exact HB.out|apply oa|apply ja|apply qa|refine ua ?_ Ua.out|refine ua ?_ Fq.out)|exact HB.out)));(case Oc=>exact sg.out);(case Hf=>exact Kd.Eb Dh.out (by repeat (first|(with_reducible first|exact HB.out|apply oa|apply ja|apply qa|refine ua ?_ Ua.out|refine ua ?_ Fq.out)|exact HB.out)));(case Gf=>exact Xj.out);(case Yy=>exact Kd.Eb Wr.out (by repeat (first|(with_reducible first|exact HB.out|apply oa|apply ja|apply qa|refine ua ?_ Ua.out|refine ua ?_ Fq.out)|exact HB.out)));(case Xy=>exact Xr.out);rintro e gE ⟨rfl,hb⟩;refine ⟨_,rfl,?_⟩;have Kb:=ia.mk (Ta (g:=Da) (o:=.cells #[.slice xb Sa.length qb,.int .i64 Pa,.int .i64 Na,.int .i64 Ma,.slice (some Rh) La.length Fb] 30 (0,0)) (by (with_reducible repeat (first|refine Aa ?_ _|refine Ca ?_|refine za ?_ _));refine Db ?_ yh.out _;(with_reducible repeat (first|refine Aa ?_ _|refine Ca ?_|refine za ?_ _));refine Db ?_ yh.out _;(with_reducible repeat (first|refine Aa ?_ _|refine Ca ?_|refine za ?_ _));refine Db ?_ yh.out _;(with_reducible repeat (first|refine Aa ?_ _|refine Ca ?_|refine za ?_ _));refine Db ?_ yh.out _;(with_reducible repeat (first|refine Aa ?_ _|refine Ca ?_|refine za ?_ _));refine Db ?_ yh.out _;(with_reducible repeat (first|refine Aa ?_ _|refine Ca ?_|refine za ?_ _));exact ta.out) hb);have Ub:=ia.mk (Ta (g:=ck) (o:=.cells #[.slice ak ((Ka La Yd).f0).length Zj,.int .i64 ((Ka La Yd).f1),.int .i64 ((Ka La Yd).f2),.int .i64 ((Ka La Yd).f3),.int .i64 ((Ka La Yd).f4)] 68 (0,0)) (by (with_reducible repeat (first|refine Aa ?_ _|refine Ca ?_|refine za ?_ _));refine zb (cs:=#[.slice ak ((Ka La Yd).f0).length Zj,.int .i64 ((Ka La Yd).f1),.int .i64 ((Ka La Yd).f2),.int .i64 ((Ka La Yd).f3),.int .i64 0]) ?_ 4 _ rfl;(with_reducible repeat (first|refine Aa ?_ _|refine Ca ?_|refine za ?_ _));refine zb (cs:=#[.slice ak ((Ka La Yd).f0).length Zj,.int .i64 ((Ka La Yd).f1),.int .i64 ((Ka La Yd).f2),.int .i64 0,.int .i64 0]) ?_ 3 _ rfl;(with_reducible repeat (first|refine Aa ?_ _|refine Ca ?_|refine za ?_ _));refine zb (cs:=#[.slice ak ((Ka La Yd).f0).length Zj,.int .i64 ((Ka La Yd).f1),.int .i64 0,.int .i64 0,.int .i64 0]) ?_ 2 _ rfl;(with_reducible repeat (first|refine Aa ?_ _|refine Ca ?_|refine za ?_ _));refine zb (cs:=#[.slice ak ((Ka La Yd).f0).length Zj,.int .i64 0,.int .i64 0,.int .i64 0,.int .i64 0]) ?_ 1 _ rfl;(with_reducible repeat (first|refine Aa ?_ _|refine Ca ?_|refine za ?_ _));refine zb (cs:=#[.slice none 0 0,.int .i64 0,.int .i64 0,.int .i64 0,.int .i64 0]) ?_ 0 _ rfl;(with_reducible repeat (first|refine Aa ?_ _|refine Ca ?_|refine za ?_ _));exact qi.out) hb);have yc:=ia.mk (Ra (by repeat (first|(with_reducible first|exact HB.out|apply oa|apply ja|apply qa|refine ua ?_ Ua.out|refine ua ?_ Fq.out)|exact HB.out)) hb);clear ta qi HB;have ta:=Kb;have qi:=Ub;have HB:=yc;clear Kb Ub yc;(try clear hb);(try clear ij);(try clear hk);(try clear hi)));go_ret;exact ⟨by first|rfl|(simp [Ja,Ia] <;> rfl)|(simp [*,Ja,Ia] <;> rfl),by repeat (first|(with_reducible first|exact HB.out|apply oa|apply ja|apply qa|refine ua ?_ Ua.out|refine ua ?_ Fq.out)|exact HB.out)⟩
        ·rw [if_neg sx] at H;exact absurd H (by simp)
       ·rw [if_neg fA] at H;exact absurd H (by simp)
      ·rw [if_neg Rs] at H;have TA:decide (Yd < (La.length:Int))=false:=decide_eq_false Rs;clear Rs;obtain rfl:=Option.some.inj H;go_wp2;go_ret;exact ⟨by first|rfl|(simp [Ja,Ia] <;> rfl)|(simp [*,Ja,Ia] <;> rfl),by repeat (first|(with_reducible first|exact HB.out|apply oa|apply ja|apply qa|refine ua ?_ Ua.out)|exact HB.out)⟩
end Go.Proofs.Ytmifdccaajngcaa.P
end
