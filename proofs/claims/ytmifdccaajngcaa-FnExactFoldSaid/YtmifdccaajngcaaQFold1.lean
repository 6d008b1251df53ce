import Derived.Test.YtmifdccaajngcaaProg
import Derived.Below
import Derived.Deep.Draws
import Derived.Deep.AppendLies
import Derived.Maps.AppendAt
import Derived.OwnWalk
import Derived.Laws.BytesArg
import Derived.Laws.MakeOwn
import Derived.Laws.OwnMore
import Derived.Deep.OwnRows
import Derived.Tactics
import Derived.Lib.ConvBytes
import Derived.Laws.Slices
import Derived.WalkKit
import Derived.KernelRfl
import Derived.RowKit3
import Derived.Deep.LoopGhost
import Derived.Deep.QuietTactic
import Derived.BigQuiet
import Derived.WideLaws
import Derived.Deep.DeepCutAuto
import Derived.Deep.CutBlock
import Derived.Deep.RegionHeld3
import Derived.Laws.Rows
import Derived.Lib.AppendStr
import Derived.ArgAppend
import Derived.Laws.IdiomCopy
import Derived.OrdersHeld
import Derived.Laws.BitsLemmas
import Derived.RowKit
import Derived.Test.YtmifdccaajngcaaQFoldW1
import Derived.Deep.Slices
import Derived.ChangeArms
import Derived.OpenShut
import Derived.WideShapes
import Derived.Shelf.Abstract
import Derived.Outline
import Derived.RegionTactic
set_option maxHeartbeats 8000000
set_option maxRecDepth 100000
section
namespace Go.Proofs.Ytmifdccaajngcaa.P
open Go.RowKit Go.Proofs.Ka.Rb Go.Proofs.Ka.Vd Go.Proofs.Ka.ef
set_option linter.unusedVariables false
set_option linter.unusedSimpArgs false
attribute [local go_sem] Ph Nh Oi Ni gh fh Oh Mh
def Kae:Option Int→Value
 | none=>.nilIface
 | some c=>.iface 0 (.int .i64 c)
theorem Na:Kae none = .nilIface:=rfl
theorem Ma (c:Int):Kae (some c) = .iface 0 (.int .i64 c):=rfl
theorem info3:(Try.prog.info? 3).map (fun i=>(i.zero,i.size,i.bytes))=some (some (.int .i64 0),1,8):=by kernel_rfl
theorem X6:(Try.prog.info? 4).map (fun i=>(i.zero,i.size,i.bytes))=some (some (.bool false),1,1):=by kernel_rfl
theorem sH:(Try.prog.info? 68).map (fun i=>(i.zero,i.size,i.bytes))=some (some (.agg #[(.slice none 0 0),(.int .i64 0),(.int .i64 0),(.int .i64 0),(.int .i64 0)]),5,56):=by kernel_rfl
theorem rH:(Try.prog.info? 70).map (fun i=>(i.zero,i.size,i.bytes))=some (some (.agg #[(.int .i64 0),(.int .i64 0),(.int .i64 0),(.int .i64 0),(.int .i64 0),(.int .i64 0),(.string ⟨#[]⟩)]),7,64):=by kernel_rfl
structure S7 where
 f0:Int
 f1:Int
 f2:Bool
 f3:Int
def z7:S7:=⟨(0:Int),(0:Int),false,(0:Int)⟩
structure S8 where
 f0:Int
 f1:Int
 f2:Bool
 f3:Int
def z8:S8:=⟨(0:Int),(0:Int),false,(0:Int)⟩
structure Xm where
 f0:Int
 f1:Int
 f2:Int
 f3:Int
 f4:Int
 f5:Int
 f6:ByteArray
def E6:Xm:=⟨(0:Int),(0:Int),(0:Int),(0:Int),(0:Int),(0:Int),(⟨#[]⟩:ByteArray)⟩
def fA:Kd Xm:=Kd.qO (Kd.pair (Kd.int .i64) (Kd.pair (Kd.int .i64) (Kd.pair (Kd.int .i64) (Kd.pair (Kd.int .i64) (Kd.pair (Kd.int .i64) (Kd.pair (Kd.int .i64) Kd.string)))))) (fun x:Xm=>(x.f0,x.f1,x.f2,x.f3,x.f4,x.f5,x.f6))
theorem vM {w:World} {x:Xm} {cs:List Value} (h:fA.K w x cs):cs=[.int .i64 x.f0,.int .i64 x.f1,.int .i64 x.f2,.int .i64 x.f3,.int .i64 x.f4,.int .i64 x.f5,.string x.f6]:=by
 obtain ⟨_,_,rfl,rfl,⟨_,_,rfl,rfl,⟨_,_,rfl,rfl,⟨_,_,rfl,rfl,⟨_,_,rfl,rfl,⟨_,_,rfl,rfl,rfl⟩⟩⟩⟩⟩⟩:=h;exact rfl
def Sc (xs:List Xm) (i:Int):Xm:=xs.getD i.toNat E6
theorem uE {w:World} {A:Option Addr} {n:Nat} {xs:List Xm} (h:Kd.C fA w A n xs) (i:Int) (h0:0 ≤ i) (h1:i < n):∃ ad , A=some ad∧w.cell? (ad.add (i.toNat * 7))=some (.int .i64 (Sc xs i).f0)∧w.cell? ⟨(ad.add (i.toNat * 7)).block,(ad.add (i.toNat * 7)).off + 1,none⟩=some (.int .i64 (Sc xs i).f1)∧w.cell? ⟨(ad.add (i.toNat * 7)).block,(ad.add (i.toNat * 7)).off + 2,none⟩=some (.int .i64 (Sc xs i).f2)∧w.cell? ⟨(ad.add (i.toNat * 7)).block,(ad.add (i.toNat * 7)).off + 3,none⟩=some (.int .i64 (Sc xs i).f3)∧w.cell? ⟨(ad.add (i.toNat * 7)).block,(ad.add (i.toNat * 7)).off + 4,none⟩=some (.int .i64 (Sc xs i).f4)∧w.cell? ⟨(ad.add (i.toNat * 7)).block,(ad.add (i.toNat * 7)).off + 5,none⟩=some (.int .i64 (Sc xs i).f5)∧w.cell? ⟨(ad.add (i.toNat * 7)).block,(ad.add (i.toNat * 7)).off + 6,none⟩=some (.string (Sc xs i).f6):=by
 obtain ⟨ad,c,e,_,hK,hc0⟩:=Kd.eM h E6 i h0 h1;have hc:∀ j u,c[j]? = some u→w.cell? (ad.add (i.toNat * 7 + j))=some u:=hc0;obtain rfl:=vM hK;exact ⟨ad,e,hc 0 _ rfl,by rw [← cg _ _ 1 (by omega)];exact hc 1 _ rfl,by rw [← cg _ _ 2 (by omega)];exact hc 2 _ rfl,by rw [← cg _ _ 3 (by omega)];exact hc 3 _ rfl,by rw [← cg _ _ 4 (by omega)];exact hc 4 _ rfl,by rw [← cg _ _ 5 (by omega)];exact hc 5 _ rfl,by rw [← cg _ _ 6 (by omega)];exact hc 6 _ rfl⟩
structure Kk where
 f0:(List Xm)
 f1:Int
 f2:Int
 f3:Int
 f4:Int
def F6:Kk:=⟨([]:List Xm),(0:Int),(0:Int),(0:Int),(0:Int)⟩
def gA:Kd Kk:=Kd.qO (Kd.pair (Kd.slice 161 fA) (Kd.pair (Kd.int .i64) (Kd.pair (Kd.int .i64) (Kd.pair (Kd.int .i64) (Kd.int .i64))))) (fun x:Kk=>(x.f0,x.f1,x.f2,x.f3,x.f4))
theorem wM {w:World} {x:Kk} {cs:List Value} (h:gA.K w x cs):∃ A0 c0,cs=[.slice A0 x.f0.length c0,.int .i64 x.f1,.int .i64 x.f2,.int .i64 x.f3,.int .i64 x.f4]∧x.f0.length ≤ c0∧fA.C w A0 x.f0.length x.f0:=by
 obtain ⟨_,_,rfl,⟨A0,c0,rfl,l0,g0⟩,⟨_,_,rfl,rfl,⟨_,_,rfl,rfl,⟨_,_,rfl,rfl,rfl⟩⟩⟩⟩:=h;exact ⟨A0,c0,rfl,l0,g0⟩
def Jd (xs:List Kk) (i:Int):Kk:=xs.getD i.toNat F6
theorem vE {w:World} {A:Option Addr} {n:Nat} {xs:List Kk} (h:Kd.C gA w A n xs) (i:Int) (h0:0 ≤ i) (h1:i < n):∃ ad A0 c0,A=some ad∧w.cell? (ad.add (i.toNat * 5))=some (.slice A0 (Jd xs i).f0.length c0)∧w.cell? ⟨(ad.add (i.toNat * 5)).block,(ad.add (i.toNat * 5)).off + 1,none⟩=some (.int .i64 (Jd xs i).f1)∧w.cell? ⟨(ad.add (i.toNat * 5)).block,(ad.add (i.toNat * 5)).off + 2,none⟩=some (.int .i64 (Jd xs i).f2)∧w.cell? ⟨(ad.add (i.toNat * 5)).block,(ad.add (i.toNat * 5)).off + 3,none⟩=some (.int .i64 (Jd xs i).f3)∧w.cell? ⟨(ad.add (i.toNat * 5)).block,(ad.add (i.toNat * 5)).off + 4,none⟩=some (.int .i64 (Jd xs i).f4)∧(Jd xs i).f0.length ≤ c0∧fA.C w A0 (Jd xs i).f0.length (Jd xs i).f0:=by
 obtain ⟨ad,c,e,_,hK,hc0⟩:=Kd.eM h F6 i h0 h1;have hc:∀ j u,c[j]? = some u→w.cell? (ad.add (i.toNat * 5 + j))=some u:=hc0;obtain ⟨A0,c0,rfl,l0,g0⟩:=wM hK;exact ⟨ad,A0,c0,e,hc 0 _ rfl,by rw [← cg _ _ 1 (by omega)];exact hc 1 _ rfl,by rw [← cg _ _ 2 (by omega)];exact hc 2 _ rfl,by rw [← cg _ _ 3 (by omega)];exact hc 3 _ rfl,by rw [← cg _ _ 4 (by omega)];exact hc 4 _ rfl,l0,g0⟩
structure T3 where
 f0:(List Int)
 f1:Int
 f2:Int
 f3:Int
 f4:(List Kk)
def k25:Kd T3:=Kd.qO (Kd.pair (Kd.slice 3 (Kd.int .i64)) (Kd.pair (Kd.int .i64) (Kd.pair (Kd.int .i64) (Kd.pair (Kd.int .i64) (Kd.slice 118 gA))))) (fun x:T3=>(x.f0,x.f1,x.f2,x.f3,x.f4))
theorem pO {w:World} {x:T3} {cs:List Value} (h:k25.K w x cs):∃ A0 c0 A4 c4,cs=[.slice A0 x.f0.length c0,.int .i64 x.f1,.int .i64 x.f2,.int .i64 x.f3,.slice A4 x.f4.length c4]∧x.f0.length ≤ c0∧(Kd.int .i64).C w A0 x.f0.length x.f0∧x.f4.length ≤ c4∧gA.C w A4 x.f4.length x.f4:=by
 obtain ⟨_,_,rfl,⟨A0,c0,rfl,l0,g0⟩,⟨_,_,rfl,rfl,⟨_,_,rfl,rfl,⟨_,_,rfl,rfl,⟨A4,c4,rfl,l4,g4⟩⟩⟩⟩⟩:=h;exact ⟨A0,c0,A4,c4,rfl,l0,g0,l4,g4⟩
structure ue where
 f0:Int
 f1:Int
 f2:Int
 f3:Int
 f4:Int
 f5:Int
 f6:ByteArray
def yq:ue:=⟨(0:Int),(0:Int),(0:Int),(0:Int),(0:Int),(0:Int),(⟨#[]⟩:ByteArray)⟩
def Di:Kd ue:=Kd.qO (Kd.pair (Kd.int .i64) (Kd.pair (Kd.int .i64) (Kd.pair (Kd.int .i64) (Kd.pair (Kd.int .i64) (Kd.pair (Kd.int .i64) (Kd.pair (Kd.int .i64) Kd.string)))))) (fun x:ue=>(x.f0,x.f1,x.f2,x.f3,x.f4,x.f5,x.f6))
theorem eA {w:World} {x:ue} {cs:List Value} (h:Di.K w x cs):cs=[.int .i64 x.f0,.int .i64 x.f1,.int .i64 x.f2,.int .i64 x.f3,.int .i64 x.f4,.int .i64 x.f5,.string x.f6]:=by
 obtain ⟨_,_,rfl,rfl,⟨_,_,rfl,rfl,⟨_,_,rfl,rfl,⟨_,_,rfl,rfl,⟨_,_,rfl,rfl,⟨_,_,rfl,rfl,rfl⟩⟩⟩⟩⟩⟩:=h;exact rfl
theorem Wg {w:World} {base:Nat} {ok:Nat→Prop} {x:ue} {cs:List Value} (h:Di.M w base ok x cs):cs=[.int .i64 x.f0,.int .i64 x.f1,.int .i64 x.f2,.int .i64 x.f3,.int .i64 x.f4,.int .i64 x.f5,.string x.f6]:=by
 obtain ⟨_,_,rfl,rfl,⟨_,_,rfl,rfl,⟨_,_,rfl,rfl,⟨_,_,rfl,rfl,⟨_,_,rfl,rfl,⟨_,_,rfl,rfl,rfl⟩⟩⟩⟩⟩⟩:=h;exact rfl
theorem Uk (w:World) (base:Nat) (ok:Nat→Prop) (x:ue)  : Di.M w base ok x [.int .i64 x.f0,.int .i64 x.f1,.int .i64 x.f2,.int .i64 x.f3,.int .i64 x.f4,.int .i64 x.f5,.string x.f6]:=⟨[.int .i64 x.f0],[.int .i64 x.f1,.int .i64 x.f2,.int .i64 x.f3,.int .i64 x.f4,.int .i64 x.f5,.string x.f6],rfl,rfl,⟨[.int .i64 x.f1],[.int .i64 x.f2,.int .i64 x.f3,.int .i64 x.f4,.int .i64 x.f5,.string x.f6],rfl,rfl,⟨[.int .i64 x.f2],[.int .i64 x.f3,.int .i64 x.f4,.int .i64 x.f5,.string x.f6],rfl,rfl,⟨[.int .i64 x.f3],[.int .i64 x.f4,.int .i64 x.f5,.string x.f6],rfl,rfl,⟨[.int .i64 x.f4],[.int .i64 x.f5,.string x.f6],rfl,rfl,⟨[.int .i64 x.f5],[.string x.f6],rfl,rfl,rfl⟩⟩⟩⟩⟩⟩
def Ia (xs:List ue) (i:Int):ue:=xs.getD i.toNat yq
theorem kf {w:World} {A:Option Addr} {n:Nat} {xs:List ue} (h:Kd.C Di w A n xs) (i:Int) (h0:0 ≤ i) (h1:i < n):∃ ad , A=some ad∧w.cell? (ad.add (i.toNat * 7))=some (.int .i64 (Ia xs i).f0)∧w.cell? ⟨(ad.add (i.toNat * 7)).block,(ad.add (i.toNat * 7)).off + 1,none⟩=some (.int .i64 (Ia xs i).f1)∧w.cell? ⟨(ad.add (i.toNat * 7)).block,(ad.add (i.toNat * 7)).off + 2,none⟩=some (.int .i64 (Ia xs i).f2)∧w.cell? ⟨(ad.add (i.toNat * 7)).block,(ad.add (i.toNat * 7)).off + 3,none⟩=some (.int .i64 (Ia xs i).f3)∧w.cell? ⟨(ad.add (i.toNat * 7)).block,(ad.add (i.toNat * 7)).off + 4,none⟩=some (.int .i64 (Ia xs i).f4)∧w.cell? ⟨(ad.add (i.toNat * 7)).block,(ad.add (i.toNat * 7)).off + 5,none⟩=some (.int .i64 (Ia xs i).f5)∧w.cell? ⟨(ad.add (i.toNat * 7)).block,(ad.add (i.toNat * 7)).off + 6,none⟩=some (.string (Ia xs i).f6):=by
 obtain ⟨ad,c,e,_,hK,hc0⟩:=Kd.eM h yq i h0 h1;have hc:∀ j u,c[j]? = some u→w.cell? (ad.add (i.toNat * 7 + j))=some u:=hc0;obtain rfl:=eA hK;exact ⟨ad,e,hc 0 _ rfl,by rw [← cg _ _ 1 (by omega)];exact hc 1 _ rfl,by rw [← cg _ _ 2 (by omega)];exact hc 2 _ rfl,by rw [← cg _ _ 3 (by omega)];exact hc 3 _ rfl,by rw [← cg _ _ 4 (by omega)];exact hc 4 _ rfl,by rw [← cg _ _ 5 (by omega)];exact hc 5 _ rfl,by rw [← cg _ _ 6 (by omega)];exact hc 6 _ rfl⟩
structure lf where
 f0:(List ue)
 f1:Int
 f2:Int
 f3:Int
 f4:Int
def mB:lf:=⟨([]:List ue),(0:Int),(0:Int),(0:Int),(0:Int)⟩
def Ok:Kd lf:=Kd.qO (Kd.pair (Kd.slice 70 Di) (Kd.pair (Kd.int .i64) (Kd.pair (Kd.int .i64) (Kd.pair (Kd.int .i64) (Kd.int .i64))))) (fun x:lf=>(x.f0,x.f1,x.f2,x.f3,x.f4))
theorem oO {w:World} {x:lf} {cs:List Value} (h:Ok.K w x cs):∃ A0 c0,cs=[.slice A0 x.f0.length c0,.int .i64 x.f1,.int .i64 x.f2,.int .i64 x.f3,.int .i64 x.f4]∧x.f0.length ≤ c0∧Di.C w A0 x.f0.length x.f0:=by
 obtain ⟨_,_,rfl,⟨A0,c0,rfl,l0,g0⟩,⟨_,_,rfl,rfl,⟨_,_,rfl,rfl,⟨_,_,rfl,rfl,rfl⟩⟩⟩⟩:=h;exact ⟨A0,c0,rfl,l0,g0⟩
theorem Bp {w:World} {base:Nat} {ok:Nat→Prop} {x:lf} {cs:List Value} (h:Ok.M w base ok x cs):∃ v0,cs=[v0,.int .i64 x.f1,.int .i64 x.f2,.int .i64 x.f3,.int .i64 x.f4]∧Di.R 70 w base ok v0 x.f0:=by
 obtain ⟨_,_,rfl,⟨v0,rfl,g0⟩,⟨_,_,rfl,rfl,⟨_,_,rfl,rfl,⟨_,_,rfl,rfl,rfl⟩⟩⟩⟩:=h;exact ⟨v0,rfl,g0⟩
theorem Vk (w:World) (base:Nat) (ok:Nat→Prop) (x:lf) {v0:Value} (g0:Di.R 70 w base ok v0 x.f0):Ok.M w base ok x [v0,.int .i64 x.f1,.int .i64 x.f2,.int .i64 x.f3,.int .i64 x.f4]:=⟨[v0],[.int .i64 x.f1,.int .i64 x.f2,.int .i64 x.f3,.int .i64 x.f4],rfl,⟨v0,rfl,g0⟩,⟨[.int .i64 x.f1],[.int .i64 x.f2,.int .i64 x.f3,.int .i64 x.f4],rfl,rfl,⟨[.int .i64 x.f2],[.int .i64 x.f3,.int .i64 x.f4],rfl,rfl,⟨[.int .i64 x.f3],[.int .i64 x.f4],rfl,rfl,rfl⟩⟩⟩⟩
def Oa (xs:List lf) (i:Int):lf:=xs.getD i.toNat mB
theorem wg {w:World} {A:Option Addr} {n:Nat} {xs:List lf} (h:Kd.C Ok w A n xs) (i:Int) (h0:0 ≤ i) (h1:i < n):∃ ad A0 c0,A=some ad∧w.cell? (ad.add (i.toNat * 5))=some (.slice A0 (Oa xs i).f0.length c0)∧w.cell? ⟨(ad.add (i.toNat * 5)).block,(ad.add (i.toNat * 5)).off + 1,none⟩=some (.int .i64 (Oa xs i).f1)∧w.cell? ⟨(ad.add (i.toNat * 5)).block,(ad.add (i.toNat * 5)).off + 2,none⟩=some (.int .i64 (Oa xs i).f2)∧w.cell? ⟨(ad.add (i.toNat * 5)).block,(ad.add (i.toNat * 5)).off + 3,none⟩=some (.int .i64 (Oa xs i).f3)∧w.cell? ⟨(ad.add (i.toNat * 5)).block,(ad.add (i.toNat * 5)).off + 4,none⟩=some (.int .i64 (Oa xs i).f4)∧(Oa xs i).f0.length ≤ c0∧Di.C w A0 (Oa xs i).f0.length (Oa xs i).f0:=by
 obtain ⟨ad,c,e,_,hK,hc0⟩:=Kd.eM h mB i h0 h1;have hc:∀ j u,c[j]? = some u→w.cell? (ad.add (i.toNat * 5 + j))=some u:=hc0;obtain ⟨A0,c0,rfl,l0,g0⟩:=oO hK;exact ⟨ad,A0,c0,e,hc 0 _ rfl,by rw [← cg _ _ 1 (by omega)];exact hc 1 _ rfl,by rw [← cg _ _ 2 (by omega)];exact hc 2 _ rfl,by rw [← cg _ _ 3 (by omega)];exact hc 3 _ rfl,by rw [← cg _ _ 4 (by omega)];exact hc 4 _ rfl,l0,g0⟩
structure eY where
 f0:Int
 f1:Int
def k79:Kd eY:=Kd.qO (Kd.pair (Kd.int .i64) (Kd.int .i64)) (fun x:eY=>(x.f0,x.f1))
structure S78 where
 f0:Int
 f1:Int
def z78:S78:=⟨(0:Int),(0:Int)⟩
structure aN where
 f0:Int
 f1:Int
 f2:Int
 f3:ByteArray
 f4:(List aN)
def G5 (d:Kd aN):Kd aN:=Kd.qO (Kd.pair (Kd.int .i64) (Kd.pair (Kd.int .i64) (Kd.pair (Kd.int .i64) (Kd.pair Kd.string (Kd.slice 172 d))))) (fun x:aN=>(x.f0,x.f1,x.f2,x.f3,x.f4))
theorem jZ:Kd.Sub G5 [172]:=Kd.UI _ (Kd.Rk (Kd.sub_const _ (by decide)) (Kd.Rk (Kd.sub_const _ (by decide)) (Kd.Rk (Kd.sub_const _ (by decide)) (Kd.Rk (Kd.sub_const _ (by decide)) (Kd.Yw 172 (by decide) Kd.bH)))))
theorem M6:∀ n,(Kd.upto G5 5 [172] n).sz=5:=Kd.SI (fun _=>rfl)
def sap:Kd aN:=Kd.fix G5 5 [172] M6 (Kd.YG jZ)
structure Jx where
 f0:Int
 f1:Int
 f2:Int
 f3:(List aN)
 f4:(List Jx)
 f5:(List Jx)
def I5 (d:Kd Jx):Kd Jx:=Kd.qO (Kd.pair (Kd.int .i64) (Kd.pair (Kd.int .i64) (Kd.pair (Kd.int .i64) (Kd.pair (Kd.slice 172 sap) (Kd.pair (Kd.slice 168 d) (Kd.slice 168 d)))))) (fun x:Jx=>(x.f0,x.f1,x.f2,x.f3,x.f4,x.f5))
theorem kZ:Kd.Sub I5 [168,172]:=Kd.UI _ (Kd.Rk (Kd.sub_const _ (by decide)) (Kd.Rk (Kd.sub_const _ (by decide)) (Kd.Rk (Kd.sub_const _ (by decide)) (Kd.Rk (Kd.sub_const _ (by decide)) (Kd.Rk (Kd.Yw 168 (by decide) Kd.bH) (Kd.Yw 168 (by decide) Kd.bH))))))
theorem N6:∀ n,(Kd.upto I5 6 [168,172] n).sz=6:=Kd.SI (fun _=>rfl)
def tap:Kd Jx:=Kd.fix I5 6 [168,172] N6 (Kd.YG kZ)
theorem bO {α:Type} {d:Kd α} {e:Nat} {w:World} {base:Nat} {ok:Nat→Prop} {v:Value} {xs:List α} (h:ia (d.R e w base ok v xs)):v.oneCell' = true:=by
 obtain ⟨A,c,rfl⟩:=Kd.Oe h.out
 rfl
theorem ZN {α:Type} {d:Kd α} {e:Nat} {w:World} {base:Nat} {ok:Nat→Prop} {v:Value} {xs:List α} (h:ia (d.S e w base ok v xs)):v.oneCell' = true:=by
 obtain ⟨A,c,rfl⟩:=Kd.Oe (Kd.zS h.out)
 rfl
theorem dO {α:Type} {d:Kd α} {e:Nat} {w:World} {base:Nat} {ok:Nat→Prop} {v:Value} {xs:List α} (h:ia (Kd.N d e w base ok v xs)):v.oneCell' = true:=by
 obtain ⟨A,c,rfl⟩:=Kd.zW h.out
 rfl
theorem cO {α:Type} {d:Kd α} {e:Nat} {w:World} {base:Nat} {ok:Nat→Prop} {v:Value} {xs:List α} (h:ia (d.Q e w base ok v xs)):v.oneCell' = true:=by
 obtain ⟨A,c,rfl,_⟩:=Kd.xW h.out
 rfl
def Ym (P:Program) (t:TypeId) {α:Type} (d:Kd α) (fit:α→Prop):Prop :=
 ∀ {H:Type} {enc:TypeId × Value→H} {w:World} {base:Nat} {spare:Nat→Bool} {held:Bool} {fuel:Nat} {cs:List Value} {x:DataW H × List MemPlace},
  DataW.trod enc P w base spare held fuel t cs=some x→∃ a:α,d.K w a cs∧fit a
theorem qM {P:Program} {t:TypeId} {k:IntKind} (ht:P.underlying t=some (.int k)):Ym P t (Kd.int k) (fun n=>(Lit.int k n).wf=true):=by
 intro H enc w base spare held fuel cs x h;obtain ⟨n,rfl,_,hw⟩:=DataW.trod_int ht h;exact ⟨n,rfl,hw⟩
def iq (n:Int):Prop:=-9223372036854775808 ≤ n∧n ≤ 9223372036854775807
theorem wf_i64 {n:Int} (h:(Lit.int .i64 n).wf=true):iq n:=by
 simp [Lit.wf,IntKind.min,IntKind.max,IntKind.signed,IntKind.bits] at h;unfold iq;omega
theorem wh {P:Program} {t:TypeId} (ht:P.underlying t=some (.int .i64)):Ym P t (Kd.int .i64) iq:=by
 intro H enc w base spare held fuel cs x h;obtain ⟨n,h1,h2⟩:=qM ht h;exact ⟨n,h1,wf_i64 h2⟩
theorem fC {P:Program} {t:TypeId} (ht:P.underlying t=some .string):Ym P t Kd.string (fun s=>s.size ≤ 9223372036854775807):=by
 intro H enc w base spare held fuel cs x h;obtain ⟨s,rfl,_,hw⟩:=DataW.trod_string ht h;exact ⟨s,rfl,by simpa [maxLen] using hw⟩
theorem Sx {α:Type} {p:Nat→α→Prop}:∀ n,(∀ i,i < n→∃ a,p i a)→∃ xs:List α,xs.length=n∧∀ (i:Nat) (a:α),xs[i]? = some a→p i a
 | 0,_=>⟨[],rfl,fun i a h=>by simp at h⟩
 | n + 1,h=>by
  obtain ⟨xs,hl,hx⟩:=Sx n (fun i hi=>h i (by omega));obtain ⟨a,ha⟩:=h n (by omega);refine ⟨xs ++ [a],by simp [hl],fun i b hb=>?_⟩
  rcases Nat.lt_or_ge i xs.length with hi|hi
  ·rw [List.getElem?_append_left hi] at hb;exact hx i b hb
  ·have:i=n:=by
    have:=(List.getElem?_eq_some_iff.1 hb).1;simp [hl] at this;omega
   subst this;rw [List.getElem?_append_right hi,hl] at hb;simp at hb;exact hb ▸ ha
theorem Fq {P:Program} {t e e':TypeId} {α:Type} {d:Kd α} {fit:α→Prop} (ht:P.underlying t=some (.slice e)) (hs:P.cellsOf e=d.sz) (h:Ym P e d fit):Ym P t (Kd.slice e' d) (fun l=>l.length ≤ 9223372036854775807∧∀ a ∈ l,fit a):=by
 intro H enc w base spare held fuel cs x hx
 rcases Go.Deep.open_slice ht hx with ⟨rfl,_⟩|⟨a,len,cap,m,n,D,Pl,rfl,hb,hl,hm,hmm,_,hel⟩
 ·exact ⟨[],⟨none,0,rfl,Nat.le_refl _,rfl,by simp,fun hp=>absurd hp (by simp)⟩,by simp,by simp⟩
 ·have hle:len ≤ m:=by rw [hmm];split <;> omega
  have hmx:len ≤ 9223372036854775807:=by simp only [maxLen] at hm;omega
  obtain ⟨xs,hxl,hxs⟩:=Sx (α:=α) (p:=fun i y=>∃ c,c.length=d.sz∧d.K w y c∧(∀ j u,c[j]? = some u→w.cell? (a.add (i * d.sz + j))=some u)∧fit y) len (fun i hi=>by
   obtain ⟨cs',h1,h2⟩:=hel i (by omega);obtain ⟨y,hy,hf⟩:=h h2;obtain ⟨_,MM,Aq⟩:=World.cells?_some h1;refine ⟨y,cs',by rw [MM,hs],hy,fun j u hu=>?_,hf⟩;have hj:j < P.cellsOf e:=by rw [← MM];exact (List.getElem?_eq_some_iff.1 hu).1
   rw [← hs,← Go.Deep.add_add,Aq j hj]
   exact hu)
  refine ⟨xs,⟨some a,cap,by rw [hxl],by omega,rfl,by omega,fun _=>⟨a,rfl,fun j p hj=>?_⟩⟩,by omega,fun y hy=>?_⟩
  ·obtain ⟨c,h1,h2,h3,_⟩:=hxs j p hj;exact ⟨c,h1,h2,h3⟩
  ·obtain ⟨i,hi,rfl⟩:=List.getElem_of_mem hy;obtain ⟨c,_,_,_,h4⟩:=hxs i _ (List.getElem?_eq_getElem hi);exact h4
def DE (P:Program) (fs:List Field) (off:Nat) {α:Type} (d:Kd α) (fit:α→Prop):Prop :=
 ∀ {H:Type} {enc:TypeId × Value→H} {w:World} {base:Nat} {spare:Nat→Bool} {held:Bool} {n:Nat} {cs:List Value},
  (∀ f ∈ fs,∃ y,DataW.trod enc P w base spare held n f.type ((cs.drop f.offset).take (P.cellsOf f.type))=some y)→cs.length=off + d.sz→∃ a:α,d.K w a (cs.drop off)∧fit a
theorem Jt {P:Program} {f:Field} {off:Nat} {α:Type} {d:Kd α} {fit:α→Prop} (ho:f.offset=off) (hs:P.cellsOf f.type=d.sz) (h:Ym P f.type d fit):DE P [f] off d fit:=by
 intro H enc w base spare held n cs hf hl;obtain ⟨y,hy⟩:=hf f (by simp);rw [ho,hs,List.take_of_length_le (by rw [List.length_drop];omega)] at hy;exact h hy
theorem Ag {P:Program} {f:Field} {fs:List Field} {off off2:Nat} {α β:Type} {d:Kd α} {d2:Kd β} {fit:α→Prop} {Jae:β→Prop} (ho:f.offset=off) (hs:P.cellsOf f.type=d.sz) (wS:off2=off + d.sz) (h:Ym P f.type d fit) (h2:DE P fs off2 d2 Jae):DE P (f :: fs) off (Kd.pair d d2) (fun p=>fit p.1∧Jae p.2):=by
 intro H enc w base spare held n cs hf hl;have hl':cs.length=off + (d.sz + d2.sz):=hl;obtain ⟨y,hy⟩:=hf f (by simp);rw [ho,hs] at hy;obtain ⟨a,ha,fa⟩:=h hy;obtain ⟨b,hb,fb⟩:=h2 (fun g hg=>hf g (List.mem_cons_of_mem _ hg)) (by omega);refine ⟨(a,b),⟨(cs.drop off).take d.sz,cs.drop off2,?_,ha,hb⟩,fa,fb⟩;rw [wS,← List.drop_drop,List.take_append_drop]
theorem Sp {P:Program} {t:TypeId} {fs:Array Field} {α:Type} {d:Kd α} {fit:α→Prop} (ht:P.underlying t=some (.struct fs)) (hs:P.cellsOf t=d.sz) (h:DE P fs.toList 0 d fit):Ym P t d fit:=by
 intro H enc w base spare held fuel cs x hx;obtain ⟨xs,n,_,_,hl,hxl,hf⟩:=DataW.trod_struct ht hx
 have:=h (w:=w) (enc:=enc) (base:=base) (spare:=spare) (held:=held) (n:=n) (cs:=cs) (fun f hfm=>by
  obtain ⟨i,hi,rfl⟩:=List.getElem_of_mem hfm;have hi':i < fs.size:=by simpa using hi
  have h1:=hf i (fs.toList[i]) (by simp [hi']);rw [List.getElem?_eq_getElem (by omega)] at h1
  exact ⟨_,h1⟩) (by omega)
 simpa using this
theorem bx {P:Program} {t:TypeId} {α β:Type} {d:Kd α} {fit:α→Prop} {g:β→α} (gi:α→β) (hg:∀ a,g (gi a)=a) (h:Ym P t d fit):Ym P t (Kd.qO d g) (fun b=>fit (g b)):=by
 intro H enc w base spare held fuel cs x hx;obtain ⟨a,ha,hf⟩:=h hx;refine ⟨gi a,?_,?_⟩
 ·show d.K w (g (gi a)) cs
  rw [hg];exact ha
 ·show fit (g (gi a))
  rw [hg];exact hf
theorem YN {P:Program} {t:TypeId} {fs:Array Field} {α:Type} {d:Kd α} {fit:α→Prop} {r:Reach} {b0:Nat} {H:Type} {enc:TypeId × Value→H} {w:World} {base:Nat} {spare:Nat→Bool} {held:Bool} {v:Value} {dt:DataW H} {p:List MemPlace}
  (ht:P.underlying t=some (.struct fs)) (h:Ym P t d fit) (hv:Value.okWide P w r b0 t v) (hd:DataW.Trod enc P w base spare held t v dt p) :
  ∃ (a:α) (cs:Array Value),v = .agg cs∧d.K w a cs.toList∧fit a:=by
 obtain ⟨cs,rfl,hsz⟩:=Go.WideShapes.okWide_struct ht hv;obtain ⟨fuel,hf⟩:=hd;obtain ⟨a,ha,hfa⟩:=h hf;exact ⟨a,cs,rfl,by simpa [Value.cells] using ha,hfa⟩
theorem US:Ym Try.prog 22 (Kd.slice 3 (Kd.int .i64)) (fun l=>l.length ≤ 9223372036854775807∧∀ a ∈ l,iq a):=Fq Try.underlying22 (by kernel_rfl) (wh Try.underlying3)
def RH (x:Xm):Prop:=iq x.f0∧iq x.f1∧iq x.f2∧iq x.f3∧iq x.f4∧iq x.f5∧(fun s=>s.size ≤ 9223372036854775807) x.f6
theorem VN:Ym Try.prog 161 fA RH:=bx (fun p=>⟨p.1,p.2.1,p.2.2.1,p.2.2.2.1,p.2.2.2.2.1,p.2.2.2.2.2.1,p.2.2.2.2.2.2⟩) (fun _=>rfl) (Sp Try.underlying161 (by kernel_rfl) (Ag rfl (by kernel_rfl) (by kernel_rfl) (wh Try.underlying3) (Ag rfl (by kernel_rfl) (by kernel_rfl) (wh Try.underlying3) (Ag rfl (by kernel_rfl) (by kernel_rfl) (wh Try.underlying3) (Ag rfl (by kernel_rfl) (by kernel_rfl) (wh Try.underlying3) (Ag rfl (by kernel_rfl) (by kernel_rfl) (wh Try.underlying3) (Ag rfl (by kernel_rfl) (by kernel_rfl) (wh Try.underlying3) (Jt rfl (by kernel_rfl) (fC Try.underlying9)))))))))
theorem XN:Ym Try.prog 116 (Kd.slice 161 fA) (fun l=>l.length ≤ 9223372036854775807∧∀ a ∈ l,RH a):=Fq Try.underlying116 (by kernel_rfl) VN
def SH (x:Kk):Prop:=(fun l=>l.length ≤ 9223372036854775807∧∀ a ∈ l,RH a) x.f0∧iq x.f1∧iq x.f2∧iq x.f3∧iq x.f4
theorem WN:Ym Try.prog 118 gA SH:=bx (fun p=>⟨p.1,p.2.1,p.2.2.1,p.2.2.2.1,p.2.2.2.2⟩) (fun _=>rfl) (Sp Try.underlying118 (by kernel_rfl) (Ag rfl (by kernel_rfl) (by kernel_rfl) XN (Ag rfl (by kernel_rfl) (by kernel_rfl) (wh Try.underlying3) (Ag rfl (by kernel_rfl) (by kernel_rfl) (wh Try.underlying3) (Ag rfl (by kernel_rfl) (by kernel_rfl) (wh Try.underlying3) (Jt rfl (by kernel_rfl) (wh Try.underlying3)))))))
theorem TS:Ym Try.prog 23 (Kd.slice 118 gA) (fun l=>l.length ≤ 9223372036854775807∧∀ a ∈ l,SH a):=Fq Try.underlying23 (by kernel_rfl) WN
def GL (x:T3):Prop:=(fun l=>l.length ≤ 9223372036854775807∧∀ a ∈ l,iq a) x.f0∧iq x.f1∧iq x.f2∧iq x.f3∧(fun l=>l.length ≤ 9223372036854775807∧∀ a ∈ l,SH a) x.f4
theorem SS:Ym Try.prog 25 k25 GL:=bx (fun p=>⟨p.1,p.2.1,p.2.2.1,p.2.2.2.1,p.2.2.2.2⟩) (fun _=>rfl) (Sp Try.underlying25 (by kernel_rfl) (Ag rfl (by kernel_rfl) (by kernel_rfl) US (Ag rfl (by kernel_rfl) (by kernel_rfl) (wh Try.underlying3) (Ag rfl (by kernel_rfl) (by kernel_rfl) (wh Try.underlying3) (Ag rfl (by kernel_rfl) (by kernel_rfl) (wh Try.underlying3) (Jt rfl (by kernel_rfl) TS))))))
section
variable {σ:Type} (U:σ→ue→ue) (N:σ→ue→σ)
def Cx (s0:σ) (code:List ue) (j:Nat):σ:=(code.take j).foldl (fun s x=>N s (U s x)) s0
def Il (s0:σ) (code:List ue):List ue:=(List.range code.length).map fun j=>U (Cx U N s0 code j) (Ia code (j:Int))
def iE (s0:σ) (code:List ue) (j:Nat) (z:ue):List ue:=(Il U N s0 code).take j ++ z :: code.drop (j + 1)
variable {U N} {s0:σ} {code:List ue} {j:Nat}
theorem Gj (s0:σ) (code:List ue):(Il U N s0 code).length=code.length:=by simp [Il]
theorem aG (s0:σ) (h:j < code.length):Cx U N s0 code (j + 1)=N (Cx U N s0 code j) (U (Cx U N s0 code j) (Ia code (j:Int))):=by
 have hr:Ia code (j:Int)=code[j]:=by simp [Ia,List.getD_eq_getElem?_getD,h]
 unfold Cx;rw [List.take_succ_eq_append_getElem h,List.foldl_append,hr]
 rfl
theorem bG (z z':ue) (h:j < code.length):(iE U N s0 code j z).set j z' = iE U N s0 code j z':=by
 unfold iE;rw [List.set_append_right _ _ (by rw [List.length_take,Gj];omega),List.length_take,Gj,Nat.min_eq_left (by omega),Nat.sub_self,List.set_cons_zero]
theorem yA (h:j < code.length):(Il U N s0 code).take j ++ code.drop j=iE U N s0 code j (Ia code (j:Int)):=by
 have hr:Ia code (j:Int)=code[j]:=by simp [Ia,List.getD_eq_getElem?_getD,h]
 unfold iE;rw [hr,List.drop_eq_getElem_cons h]
theorem cG (h:j < code.length):iE U N s0 code j (U (Cx U N s0 code j) (Ia code (j:Int)))=(Il U N s0 code).take (j + 1) ++ code.drop (j + 1):=by
 unfold iE;rw [List.take_succ_eq_append_getElem (by rw [Gj];exact h),List.append_assoc];simp [Il]
theorem EL (z:ue) (h:j < code.length):Ia (iE U N s0 code j z) (j:Int)=z:=by
 unfold iE;simp [Ia,List.getD_eq_getElem?_getD,List.getElem?_append_right,List.length_take,Gj,Nat.min_eq_left (Nat.le_of_lt h)]
end
end Go.Proofs.Ytmifdccaajngcaa.P
end
section
namespace Go.Proofs.Ytmifdccaajngcaa.P
open Go.RowKit Go.Proofs.Ka.Rb Go.Proofs.Ka.Vd Go.Proofs.Ka.ef
set_option linter.unusedVariables false
set_option linter.unusedSimpArgs false
attribute [local go_sem] Ph Nh Oi Ni gh fh Oh Mh
def Bh.f (a0:Int) (a1:Int) (a2:Int):Option (Bool):=if a0 ≥ a1 then (some (decide (a0 ≤ a2))) else (some false)
theorem Bh.calls (a0:Int) (a1:Int) (a2:Int) (r:Bool) (w:World) (h:Bh.f a0 a1 a2=some r) :
  Calls Try.prog 58 #[.int .i64 a0,.int .i64 a1,.int .i64 a2] w fun e w'=>e = .returned (.bool r)∧ic w w':=by
 have H:(if a0 ≥ a1 then (some (decide (a0 ≤ a2))) else (some false))=some r:=h;clear h
 by_cases c4:a0 ≥ a1
 ·rw [if_pos c4] at H;have Zi:decide (a1 ≤ a0)=true:=decide_eq_true c4;clear c4;obtain rfl:=Option.some.inj H;go_enter Try.func58,Try.ntmps58;go_wp2;go_ret;exact ⟨by first|rfl|(simp;done)|(simp [*];done),by repeat (first|exact ic.refl _|apply ic.step)⟩
 ·rw [if_neg c4] at H;have Zi:decide (a1 ≤ a0)=false:=decide_eq_false c4;clear c4;obtain rfl:=Option.some.inj H;go_enter Try.func58,Try.ntmps58;go_wp2;go_ret;exact ⟨by first|rfl|(simp;done)|(simp [*];done),by repeat (first|exact ic.refl _|apply ic.step)⟩
theorem bY {W w1:World} (hb:Below W.heap.size W w1):(∀ b o,b < W.heap.size→w1.cell? ⟨b,o,none⟩=W.cell? ⟨b,o,none⟩)∧(∀ b o,b < W.heap.size→w1.frozen? ⟨b,o,none⟩=W.frozen? ⟨b,o,none⟩) :=
 ⟨fun b o h=>hb.cell (p:=⟨b,o,none⟩) h,fun b o h=>hb.frozen (p:=⟨b,o,none⟩) h⟩
theorem Ct {α:Type} {l:List α} {p:α→Bool} {k:Nat} {d:α} (hk:k < l.length) (h:(l.take k).any p=false) (hx:p (l.getD k d)=false):(l.take (k + 1)).any p=false:=by
 rw [List.take_succ_eq_append_getElem hk,List.any_append,h]
 simpa [List.getD_eq_getElem?_getD,List.getElem?_eq_getElem hk] using hx
theorem ML {α:Type} {l:List α} {p:α→Bool} {k:Nat} {d:α} (hk:k < l.length) (hx:p (l.getD k d)=true):l.any p=true:=by
 rw [List.any_eq_true];exact ⟨l[k],List.getElem_mem hk,by simpa [List.getD_eq_getElem?_getD,List.getElem?_eq_getElem hk] using hx⟩
theorem wB (g:Nat) (lb:Array Value) (p:ue→Bool) (eg:∀ args w,(callFunc g args).run Try.prog w = .ok (.enter g args) w) (A0:Option Addr) (c0:Nat) (l0:List ue) (w:World) (ak:Kd.C Di w A0 l0.length l0) (hc0:l0.length ≤ c0)
  (hp:∀ (W:World) (x:ue),Below w.heap.size w W→Calls Try.prog g (#[(.agg #[.int .i64 x.f0,.int .i64 x.f1,.int .i64 x.f2,.int .i64 x.f3,.int .i64 x.f4,.int .i64 x.f5,.string x.f6])] ++ lb) W fun e w'=>e = .returned (.bool (p x))∧Below W.heap.size W w') :
  Calls Try.prog 124 #[.slice A0 l0.length c0,.func (.func g) #[] lb] w fun e w'=>(∃ i:Int,e = .returned (.int .i64 i)∧decide (0 ≤ i)=l0.any p)∧Below w.heap.size w w':=by
 have hmx:=ak.2.1;have qh:=ia.mk ak;have JG:=ia.mk hc0;have HP:=ia.mk hp;clear ak hc0 hp;go_enter Try.func124,Try.ntmps124;go_wp2
 go_loopg [5,8] l0.length (fun gg _ s8 wr=>∃ kk:Nat,kk ≤ l0.length∧l0.length - kk ≤ gg∧s8 = .int .i64 kk∧ia (Below w.heap.size w wr)∧ia ((l0.take kk).any p=false))
 case atStart=>exact ⟨0,Nat.zero_le _,by omega,rfl,⟨Below.refl _ w⟩,⟨by simp⟩⟩
 case round =>
  (try clear BW);(try clear HA);obtain ⟨kk,hkk,hg,rfl,BW,HA⟩:=hrel
  by_cases hlt:kk < l0.length
  ·have p1:0 ≤ (kk:Int):=by omega
   have q1:(kk:Int) < (l0.length:Int):=by omega
   obtain ⟨ad,e1,hx0,hx1,cn,Zl,Zm,ju,iu⟩:=kf qh.out (kk:Int) p1 q1;cases e1;simp only [Int.toNat_natCast] at hx0 hx1 cn Zl Zm ju iu;replace hx0:=(BW.out.cell (World.block_lt_of_cell? w _ hx0)).trans hx0;replace hx1:=(BW.out.cell (World.block_lt_of_cell? w _ hx1)).trans hx1;replace cn:=(BW.out.cell (World.block_lt_of_cell? w _ cn)).trans cn;replace Zl:=(BW.out.cell (World.block_lt_of_cell? w _ Zl)).trans Zl;replace Zm:=(BW.out.cell (World.block_lt_of_cell? w _ Zm)).trans Zm;replace ju:=(BW.out.cell (World.block_lt_of_cell? w _ ju)).trans ju;replace iu:=(BW.out.cell (World.block_lt_of_cell? w _ iu)).trans iu;have Cw:=HP.out wr (Ia l0 (kk:Int)) BW.out;cases hq:p (Ia l0 (kk:Int)) with
   | true =>
    rw [hq] at Cw;go_wp2_with (go_at_fn g;refine Cw.mono ?_;rintro e w1 ⟨rfl,Sm⟩);go_ret;exact ⟨⟨_,rfl,by rw [ML (d:=yq) hlt hq];simp⟩,BW.out.trans (Sm.mono BW.out.size)⟩
   | false =>
    rw [hq] at Cw;go_wp2_with (go_at_fn g;refine Cw.mono ?_;rintro e w1 ⟨rfl,Sm⟩)
    go_roundg (l0.length - (kk + 1))
    case measure=>omega
    case rel=>exact ⟨kk + 1,by omega,by omega,by go_num,⟨BW.out.trans (Sm.mono BW.out.size)⟩,⟨Ct (d:=yq) hlt HA.out hq⟩⟩
  ·have Aaq:¬ (kk:Int) < (l0.length:Int):=by omega
   have he:kk=l0.length:=by omega
   subst he;go_wp2;go_ret;exact ⟨⟨_,rfl,by have h_:=HA.out;rw [List.take_length] at h_;rw [h_];simp⟩,BW.out⟩
theorem Xt (g:Nat) (lb:Array Value) (p:ue→Bool) (eg:∀ args w,(callFunc g args).run Try.prog w = .ok (.enter g args) w) (A0:Option Addr) (c0:Nat) (l0:List ue) (w:World) (ak:Kd.C Di w A0 l0.length l0) (hc0:l0.length ≤ c0)
  (hp:∀ (W:World) (x:ue),Below w.heap.size w W→Calls Try.prog g (#[(.agg #[.int .i64 x.f0,.int .i64 x.f1,.int .i64 x.f2,.int .i64 x.f3,.int .i64 x.f4,.int .i64 x.f5,.string x.f6])] ++ lb) W fun e w'=>e = .returned (.bool (p x))∧Below W.heap.size W w') :
  Calls Try.prog 116 #[.slice A0 l0.length c0,.func (.func g) #[] lb] w fun e w'=>e = .returned (.bool (l0.any p))∧Below w.heap.size w w':=by
 have HI:=ia.mk (wB g lb p eg A0 c0 l0 w ak hc0 hp);clear ak hc0 hp;go_enter Try.func116,Try.ntmps116;go_wp2_with (go_at_call 124;refine HI.out.mono ?_;rintro e w1 ⟨⟨i,rfl,hi⟩,Sm⟩;have HD:=ia.mk hi;clear hi);go_ret;exact ⟨by rw [← HD.out];first|rfl|simp,Sm⟩
def Ab.l0:Nat→List ByteArray→ByteArray→Int→Int→Option (Int)
 | 0,_,_,_,_=>none
 | k + 1,x0,x1,x7,x8=>if x8 < x7 then (if 0 ≤ x8 then (if x8 < (x0.length:Int) then (if x1.toList=(Ah ByteArray.empty x0 x8).toList then (some x8) else (Ab.l0 k x0 x1 x7 (wrap64 (x8 + 1)))) else (none)) else (none)) else (some (-1))
def Ab.f (k:Nat) (l0:List ByteArray) (a1:ByteArray):Option (Int):=Ab.l0 k l0 a1 (l0.length:Int) 0
theorem Ab.lO:∀ k,(∀ y0 y1 y2 y3,xp (Ab.l0 k y0 y1 y2 y3) (Ab.l0 (k + 1) y0 y1 y2 y3))
 | 0=>fun _ _ _ _ r h=>by simp [Ab.l0] at h
 | k + 1=>by
  have Y6:=Ab.lO k
  ·intro y0 y1 y2 y3;unfold Ab.l0
   repeat' first
   | (with_reducible exact Y6 _ _ _ _)
   | (with_reducible exact xp.refl _)
   | (with_reducible exact xp.none _)
   | (with_reducible refine xp.ite ?_ ?_)
   | (with_reducible refine xp.bind ?_ (fun _=>?_))
   | exact Y6 _ _ _ _
   | exact xp.none _
   | refine xp.ite ?_ ?_
   | refine xp.bind ?_ (fun _=>?_)
theorem Ab.mono:∀ a0 a1 k,xp (Ab.f k a0 a1) (Ab.f (k + 1) a0 a1):=by
 intro a0 a1 k;have Y6:=Ab.lO k;unfold Ab.f
 repeat' first
   | (with_reducible exact Y6 _ _ _ _)
   | (with_reducible exact xp.refl _)
   | (with_reducible exact xp.none _)
   | (with_reducible refine xp.ite ?_ ?_)
   | (with_reducible refine xp.bind ?_ (fun _=>?_))
   | exact Y6 _ _ _ _
   | exact xp.none _
   | refine xp.ite ?_ ?_
   | refine xp.bind ?_ (fun _=>?_)
theorem Ab.calls (k:Nat) (A0:Option Addr) (c0:Nat) (l0:List ByteArray) (a1:ByteArray) (r:Int) (w:World) (ak:Kd.C Kd.string w A0 l0.length l0) (hc0:l0.length ≤ c0) (h:Ab.f k l0 a1=some r) :
  Calls Try.prog 141 #[.slice A0 l0.length c0,.string a1] w fun e w'=>e = .returned (.int .i64 r)∧ic w w':=by
 have qh:=ia.mk ak;have JG:=ia.mk hc0;clear ak hc0;have H:(Ab.l0 k l0 a1 (l0.length:Int) 0)=some r:=h;clear h;have H':=ia.mk H;clear H;go_enter Try.func141,Try.ntmps141;go_wp2
 go_loopg [8] k (fun kq v8 w'=>∃ (Rn:Int),v8 = .int .i64 Rn∧ia (Ab.l0 kq l0 a1 (l0.length:Int) Rn=some r)∧ia (kq ≤ k)∧ic w w')
 case atStart=>exact ⟨(0),(by first|rfl|(simp;done)|(simp [*];done)),H',⟨Nat.le_refl _⟩,by repeat (first|exact ic.refl _|apply ic.step)⟩
 case round =>
  clear H'
  try clear c1
  try clear p2
  (try clear HA);(try clear Wh);obtain ⟨Rn,rfl,HA,Wh,⟨m1,rfl⟩⟩:=hrel;cases gk with
  | zero=>exact absurd HA.out (by simp [Ab.l0])
  | succ k1 =>
   have H:=HA.out;clear HA;simp only [Ab.l0] at H
   by_cases c3:Rn < (l0.length:Int)
   ·rw [if_pos c3] at H;have Xh:decide (Rn < (l0.length:Int))=true:=decide_eq_true c3;clear c3
    by_cases c4:0 ≤ Rn
    ·rw [if_pos c4] at H;have Zi:decide (0 ≤ Rn)=true:=decide_eq_true c4;clear c4
     by_cases c5:Rn < (l0.length:Int)
     ·rw [if_pos c5] at H;have en:decide (Rn < (l0.length:Int))=true:=decide_eq_true c5;clear c5
      by_cases c6:a1.toList=(Ah ByteArray.empty l0 Rn).toList
      ·rw [if_pos c6] at H;have dn:(a1.toList == (Ah ByteArray.empty l0 Rn).toList)=true:=beq_iff_eq.mpr c6;have Gx:(a1.toList != (Ah ByteArray.empty l0 Rn).toList)=false:=bne_eq_false_iff_eq.mpr c6;clear c6;obtain rfl:=Option.some.inj H;have Td:0 ≤ (Rn:Int):=of_decide_eq_true (by first|(with_reducible assumption)|assumption);have Sd:Rn < (l0.length:Int):=of_decide_eq_true (by first|(with_reducible assumption)|assumption);obtain ⟨mc,Sg,uc⟩:=Kd.Gs qh.out Rn Td Sd;cases Sg;replace Td:=eq_true Td;replace Sd:=eq_true Sd;go_wp2;go_ret;exact ⟨by first|rfl|(simp;done)|(simp [*];done),by repeat (first|exact ic.refl _|apply ic.step)⟩
      ·rw [if_neg c6] at H;have dn:(a1.toList == (Ah ByteArray.empty l0 Rn).toList)=false:=beq_eq_false_iff_ne.mpr c6;have Gx:(a1.toList != (Ah ByteArray.empty l0 Rn).toList)=true:=bne_iff_ne.mpr c6;have H':=ia.mk H;clear H;have Td:0 ≤ (Rn:Int):=of_decide_eq_true (by first|(with_reducible assumption)|assumption);have Sd:Rn < (l0.length:Int):=of_decide_eq_true (by first|(with_reducible assumption)|assumption);obtain ⟨mc,Sg,uc⟩:=Kd.Gs qh.out Rn Td Sd;cases Sg;replace Td:=eq_true Td;replace Sd:=eq_true Sd;go_wp2
       go_roundg k1
       case measure=>have:=Wh.out;omega
       case rel=>exact ⟨(wrap64 (Rn + 1)),(by first|rfl|(simp;done)|(simp [*];done)),H',⟨by have:=Wh.out;omega⟩,by repeat (first|exact ic.refl _|apply ic.step)⟩
     ·rw [if_neg c5] at H;exact absurd H (by simp)
    ·rw [if_neg c4] at H;exact absurd H (by simp)
   ·rw [if_neg c3] at H;have Xh:decide (Rn < (l0.length:Int))=false:=decide_eq_false c3;clear c3;obtain rfl:=Option.some.inj H;go_wp2;go_ret;exact ⟨by first|rfl|(simp;done)|(simp [*];done),by repeat (first|exact ic.refl _|apply ic.step)⟩
def jd.f (k:Nat) (l0:List ByteArray) (a1:ByteArray):Option (Bool):=(Ab.f k l0 a1).bind fun t101=>(some (decide (t101 ≥ 0)))
theorem jd.mono:∀ a0 a1 k,xp (jd.f k a0 a1) (jd.f (k + 1) a0 a1):=by
 intro a0 a1 k;unfold jd.f
 repeat' first
   | (with_reducible exact Ab.mono _ _ _)
   | (with_reducible exact xp.refl _)
   | (with_reducible exact xp.none _)
   | (with_reducible refine xp.ite ?_ ?_)
   | (with_reducible refine xp.bind ?_ (fun _=>?_))
   | exact Ab.mono _ _ _
   | exact xp.none _
   | refine xp.ite ?_ ?_
   | refine xp.bind ?_ (fun _=>?_)
theorem jd.calls (k:Nat) (A0:Option Addr) (c0:Nat) (l0:List ByteArray) (a1:ByteArray) (r:Bool) (w:World) (ak:Kd.C Kd.string w A0 l0.length l0) (hc0:l0.length ≤ c0) (h:jd.f k l0 a1=some r) :
  Calls Try.prog 140 #[.slice A0 l0.length c0,.string a1] w fun e w'=>e = .returned (.bool r)∧ic w w':=by
 have qh:=ia.mk ak;have JG:=ia.mk hc0;clear ak hc0;have H:((Ab.f k l0 a1).bind fun t101=>(some (decide (t101 ≥ 0))))=some r:=h;clear h;replace H:=Option.bind_eq_some_iff.mp H;obtain ⟨t101,jB,H⟩:=H;replace H:(some (decide (t101 ≥ 0)))=some r:=H;have A3:=ia.mk jB;clear jB;obtain rfl:=Option.some.inj H;go_enter Try.func140,Try.ntmps140;go_wp2_with (first|((with_reducible refine qb (f:=141) rfl ?_);refine Qc (some 7) rfl rfl Try.func141 (by kernel_rfl) rfl #[.slice A0 l0.length c0,.string a1] rfl (by (try simp only [List.map_toArray,List.map_cons,List.map_nil]);first|done|rfl|(simp only [List.length_drop,List.length_take];rfl)) ?_;(with_reducible refine (Ab.calls k _ _ l0 a1 t101 _ ?td ?qd A3.out).mono ?_);(case td=>repeat (first|exact qh.out|(with_reducible refine Kd.Gc ?_ _)|(with_reducible refine Kd.Fc ?_ _)|(with_reducible refine Kd.xd ?_)));(case qd=>exact JG.out);rintro e w' ⟨rfl,⟨nd,rfl⟩⟩;refine ⟨_,rfl,?_⟩));go_ret;exact ⟨by first|rfl|(simp;done)|(simp [*];done),by repeat (first|exact ic.refl _|apply ic.step)⟩
def Nm.f (k:Nat) (a0:ByteArray):Option (Bool):=(jd.f k (([(⟨#[61,61]⟩:ByteArray),(⟨#[60]⟩:ByteArray),(⟨#[38]⟩:ByteArray),(⟨#[43]⟩:ByteArray),(⟨#[45]⟩:ByteArray),(⟨#[42]⟩:ByteArray)]:List ByteArray)) a0).bind fun t104=>(some t104)
theorem Nm.calls (k:Nat) (a0:ByteArray) (r:Bool) (w:World) (h:Nm.f k a0=some r) :
  Calls Try.prog 136 #[.string a0] w fun e w'=>e = .returned (.bool r)∧Below w.heap.size w w':=by
 have HB:=ia.mk (Below.refl w.heap.size w);have H:((jd.f k (([(⟨#[61,61]⟩:ByteArray),(⟨#[60]⟩:ByteArray),(⟨#[38]⟩:ByteArray),(⟨#[43]⟩:ByteArray),(⟨#[45]⟩:ByteArray),(⟨#[42]⟩:ByteArray)]:List ByteArray)) a0).bind fun t104=>(some t104))=some r:=h;clear h;obtain ⟨bg,jg⟩:∃ y_:List ByteArray,y_=(([(⟨#[61,61]⟩:ByteArray),(⟨#[60]⟩:ByteArray),(⟨#[38]⟩:ByteArray),(⟨#[43]⟩:ByteArray),(⟨#[45]⟩:ByteArray),(⟨#[42]⟩:ByteArray)]:List ByteArray)):=⟨_,rfl⟩;replace H:((jd.f k bg a0).bind fun t104=>(some t104))=some r:=by first|(rw [jg];with_reducible exact H)|(have lg:=(Option.bind_some _ _).symm.trans H;rw [jg];with_reducible exact lg)|(have lg:=(Option.bind_some _ _).symm.trans H;with_reducible exact lg)|with_reducible exact H|(rw [jg];exact H)|exact H
 have wk:=ia.mk jg;clear jg;replace H:=Option.bind_eq_some_iff.mp H;obtain ⟨t104,BS,H⟩:=H;replace H:(some t104)=some r:=H;have A2:=ia.mk BS;clear BS;obtain rfl:=Option.some.inj H;go_enter Try.func136,Try.ntmps136;go_wp2_with (first|((with_reducible refine Ib (N:=3) rfl ?_);refine Kd.Dt Kd.string _ 9 ?hg (N:=3) ?hd (xs:=([(⟨#[61,61]⟩:ByteArray),(⟨#[60]⟩:ByteArray),(⟨#[38]⟩:ByteArray),(⟨#[43]⟩:ByteArray),(⟨#[45]⟩:ByteArray),(⟨#[42]⟩:ByteArray)]:List ByteArray)) (inner:=[.string (⟨#[61,61]⟩:ByteArray),.string (⟨#[60]⟩:ByteArray),.string (⟨#[38]⟩:ByteArray),.string (⟨#[43]⟩:ByteArray),.string (⟨#[45]⟩:ByteArray),.string (⟨#[42]⟩:ByteArray)]) (ok:=fun _=>True) (zk:=fun _=>True) ?hr ?hp (fun _ hk=>hk) trivial (Below.refl _ _) (Nat.le_refl _) (by simp) ?_;(case hd=>rfl);(case hg=>rfl);(case hr=>first|(go_simp;done)|(go_simp;rfl));(case hp=>exact (af.one (show Kd.M Kd.string _ _ _ (⟨#[61,61]⟩:ByteArray) [.string (⟨#[61,61]⟩:ByteArray)] from rfl) (af.one (show Kd.M Kd.string _ _ _ (⟨#[60]⟩:ByteArray) [.string (⟨#[60]⟩:ByteArray)] from rfl) (af.one (show Kd.M Kd.string _ _ _ (⟨#[38]⟩:ByteArray) [.string (⟨#[38]⟩:ByteArray)] from rfl) (af.one (show Kd.M Kd.string _ _ _ (⟨#[43]⟩:ByteArray) [.string (⟨#[43]⟩:ByteArray)] from rfl) (af.one (show Kd.M Kd.string _ _ _ (⟨#[45]⟩:ByteArray) [.string (⟨#[45]⟩:ByteArray)] from rfl) (af.one (show Kd.M Kd.string _ _ _ (⟨#[42]⟩:ByteArray) [.string (⟨#[42]⟩:ByteArray)] from rfl) (af.none _ _))))))));intro fF w3 mo hb jA Fj;clear jA Fj;(first|rw [← wk.out] at mo|(simp only [Int.reduceToNat] at mo;rw [← wk.out] at mo));have Kb:=ia.mk (Kd.xh mo (Sa (by repeat (first|(with_reducible first|exact HB.out|apply ta|apply ja|apply ua)|exact HB.out))));have Ub:=ia.mk (Ra (by repeat (first|(with_reducible first|exact HB.out|apply ta|apply ja|apply ua)|exact HB.out)) hb);clear HB;have Jp:=Kb;have HB:=Ub;clear Kb Ub hb mo;obtain ⟨Ao5,co5,E2⟩:=Kd.Oe Jp.out;subst E2)|((with_reducible refine qb (f:=140) rfl ?_);refine Qc (some 5) rfl rfl Try.func140 (by kernel_rfl) rfl #[.slice Ao5 bg.length co5,.string a0] rfl (by (try simp only [List.map_toArray,List.map_cons,List.map_nil]);first|done|rfl|(simp only [List.length_drop,List.length_take];rfl)) ?_;(with_reducible refine (jd.calls k _ _ bg a0 t104 _ ?td ?qd A2.out).mono ?_);(case td=>repeat (first|exact (Kd.oc Jp.out).2.2|(with_reducible refine Kd.Gc ?_ _)|(with_reducible refine Kd.Fc ?_ _)|(with_reducible refine Kd.xd ?_)));(case qd=>exact (Kd.oc Jp.out).2.1);rintro e w' ⟨rfl,⟨nd,rfl⟩⟩;refine ⟨_,rfl,?_⟩));go_ret;exact ⟨by first|rfl|(simp [Na,Ma] <;> rfl)|(simp [*,Na,Ma] <;> rfl),by repeat (first|(with_reducible first|exact HB.out|apply ta|apply ja|apply ua)|exact HB.out)⟩
theorem wF (g:Nat) (lb:Array Value) (p:Int→Bool) (eg:∀ args w,(callFunc g args).run Try.prog w = .ok (.enter g args) w) (A0:Option Addr) (c0:Nat) (l0:List Int) (w:World) (ak:Kd.C (Kd.int .i64) w A0 l0.length l0) (hc0:l0.length ≤ c0)
  (hp:∀ (W:World) (x:Int),Below w.heap.size w W→Calls Try.prog g (#[(.int .i64 x)] ++ lb) W fun e w'=>e = .returned (.bool (p x))∧Below W.heap.size W w') :
  Calls Try.prog 130 #[.slice A0 l0.length c0,.func (.func g) #[] lb] w fun e w'=>(∃ i:Int,e = .returned (.int .i64 i)∧decide (0 ≤ i)=l0.any p)∧Below w.heap.size w w':=by
 have hmx:=ak.2.1;have qh:=ia.mk ak;have JG:=ia.mk hc0;have HP:=ia.mk hp;clear ak hc0 hp;go_enter Try.func130,Try.ntmps130;go_wp2
 go_loopg [5,8] l0.length (fun gg _ s8 wr=>∃ kk:Nat,kk ≤ l0.length∧l0.length - kk ≤ gg∧s8 = .int .i64 kk∧ia (Below w.heap.size w wr)∧ia ((l0.take kk).any p=false))
 case atStart=>exact ⟨0,Nat.zero_le _,by omega,rfl,⟨Below.refl _ w⟩,⟨by simp⟩⟩
 case round =>
  (try clear BW);(try clear HA);obtain ⟨kk,hkk,hg,rfl,BW,HA⟩:=hrel
  by_cases hlt:kk < l0.length
  ·have p1:0 ≤ (kk:Int):=by omega
   have q1:(kk:Int) < (l0.length:Int):=by omega
   obtain ⟨ad,e1,hx0⟩:=Kd.Ij qh.out (kk:Int) p1 q1;cases e1;simp only [Int.toNat_natCast] at hx0;replace hx0:=(BW.out.cell (World.block_lt_of_cell? w _ hx0)).trans hx0;have Cw:=HP.out wr (rd l0 (kk:Int)) BW.out;cases hq:p (rd l0 (kk:Int)) with
   | true =>
    rw [hq] at Cw;go_wp2_with (go_at_fn g;refine Cw.mono ?_;rintro e w1 ⟨rfl,Sm⟩);go_ret;exact ⟨⟨_,rfl,by rw [ML (d:=0) hlt hq];simp⟩,BW.out.trans (Sm.mono BW.out.size)⟩
   | false =>
    rw [hq] at Cw;go_wp2_with (go_at_fn g;refine Cw.mono ?_;rintro e w1 ⟨rfl,Sm⟩)
    go_roundg (l0.length - (kk + 1))
    case measure=>omega
    case rel=>exact ⟨kk + 1,by omega,by omega,by go_num,⟨BW.out.trans (Sm.mono BW.out.size)⟩,⟨Ct (d:=0) hlt HA.out hq⟩⟩
  ·have Aaq:¬ (kk:Int) < (l0.length:Int):=by omega
   have he:kk=l0.length:=by omega
   subst he;go_wp2;go_ret;exact ⟨⟨_,rfl,by have h_:=HA.out;rw [List.take_length] at h_;rw [h_];simp⟩,BW.out⟩
theorem Dx (g:Nat) (lb:Array Value) (p:Int→Bool) (eg:∀ args w,(callFunc g args).run Try.prog w = .ok (.enter g args) w) (A0:Option Addr) (c0:Nat) (l0:List Int) (w:World) (ak:Kd.C (Kd.int .i64) w A0 l0.length l0) (hc0:l0.length ≤ c0)
  (hp:∀ (W:World) (x:Int),Below w.heap.size w W→Calls Try.prog g (#[(.int .i64 x)] ++ lb) W fun e w'=>e = .returned (.bool (p x))∧Below W.heap.size W w') :
  Calls Try.prog 113 #[.slice A0 l0.length c0,.func (.func g) #[] lb] w fun e w'=>e = .returned (.bool (l0.any p))∧Below w.heap.size w w':=by
 have HI:=ia.mk (wF g lb p eg A0 c0 l0 w ak hc0 hp);clear ak hc0 hp;go_enter Try.func113,Try.ntmps113;go_wp2_with (go_at_call 130;refine HI.out.mono ?_;rintro e w1 ⟨⟨i,rfl,hi⟩,Sm⟩;have HD:=ia.mk hi;clear hi);go_ret;exact ⟨by rw [← HD.out];first|rfl|simp,Sm⟩
def Nk (a b c:Int):Bool:=decide (b ≤ a) && decide (a ≤ c)
theorem Gk (a b c:Int) (w:World):Calls Try.prog 58 #[.int .i64 a,.int .i64 b,.int .i64 c] w fun e w'=>e = .returned (.bool (Nk a b c))∧ic w w' :=
 Bh.calls a b c (Nk a b c) w (by
  unfold Bh.f Nk
  by_cases h:a ≥ b
  ·rw [if_pos h];have h':b ≤ a:=h;simp [h']
  ·rw [if_neg h];have h':¬ b ≤ a:=h
   simp [h'])
def Ht (l:List Int) (p v:Int):Bool:=Nk (l.length:Int) 1 4 && !(l.any fun n=>!Nk n 1 16) && Nk p 0 (if v < 6 then v else 6) && decide (v ≤ 20)
theorem rF (W:World) (x:Int):Calls Try.prog 114 #[.int .i64 x] W fun e w'=>e = .returned (.bool (!Nk x 1 16))∧Below W.heap.size W w':=by
 have HC:=ia.mk (Gk x 1 16);generalize Nk x 1 16=b at HC ⊢;go_enter Try.func114,Try.ntmps114;go_wp2_with (go_at_call 58;refine (HC.out _).mono ?_;rintro e w1 ⟨rfl,Sm⟩;have HD:=ia.mk Sm.below;clear Sm);go_ret;exact ⟨rfl,HD.out⟩
theorem wE (p0 p1 p2 p3:Value) (A:Option Addr) (c:Nat) (w:World) :
  Calls Try.prog 115 #[.agg #[p0,p1,p2,p3],.slice A 0 c,.int .i64 0] w fun e w'=>e = .returned (.bool true)∧Below w.heap.size w w':=by
 go_enter Try.func115,Try.ntmps115;go_wp2
 go_loop [25] (fun i=>i = .int .i64 0) (fun _=>0)
 case atStart=>exact rfl
 case round =>
  obtain rfl:=hrel;go_wp2;go_ret;exact ⟨rfl,ta (ta (Below.refl _ _) _) _⟩
theorem vB (A0 A3:Option Addr) (c0 c3:Nat) (l0:List Int) (a1 a2:Int) (w:World) (ak:Kd.C (Kd.int .i64) w A0 l0.length l0) (hc0:l0.length ≤ c0) :
  Calls Try.prog 89 #[.agg #[.slice A0 l0.length c0,.int .i64 a1,.int .i64 a2,.slice A3 0 c3]] w fun e w'=>e = .returned (.bool (Ht l0 a1 a2))∧Below w.heap.size w w':=by
 have eg:=enters_of Try.func114 (by kernel_rfl) rfl;have hmx:=ak.2.1;have MW:=ia.mk (Gk (l0.length:Int) 1 4);have HC3:=ia.mk (Gk a1 0 (if a2 < 6 then a2 else 6));have HF:=ia.mk (fun (W:World) (hb:Below w.heap.size w W)=>Dx 114 #[] (fun n=>!Nk n 1 16) eg A0 c0 l0 W (Kd.Lb ak hb) hc0 (fun W x _=>rF W x));clear ak hc0;unfold Ht
 by_cases h6:a2 < 6
 all_goals
  have hmin:min 6 a2=if a2 < 6 then a2 else 6:=by split <;> omega
  first|rw [if_pos h6] at HC3 hmin ⊢|rw [if_neg h6] at HC3 hmin ⊢
  cases Sm:Nk (l0.length:Int) 1 4 with
  | false =>
   go_enter Try.func89,Try.ntmps89;go_wp2_with (first|(go_at_call 58;refine (Gk _ _ _ _).mono ?_;rintro e w1 ⟨rfl,⟨n,rfl⟩⟩));go_ret;exact ⟨rfl,ja (ta (Below.refl _ _) _) _⟩
  | true =>
   cases Li:(l0.any fun n=>!Nk n 1 16) with
   | true =>
    rw [Li] at HF;go_enter Try.func89,Try.ntmps89;go_wp2_with (first|(go_at_call 58;refine (Gk _ _ _ _).mono ?_;rintro e w1 ⟨rfl,⟨n,rfl⟩⟩)|(go_at_call 113;refine (HF.out _ (ja (ta (Below.refl _ _) _) _)).mono ?_;rintro e w1 ⟨rfl,hb⟩;have HB:=ia.mk (Ra (ja (ta (Below.refl _ _) _) _) hb);clear hb));go_ret;exact ⟨rfl,HB.out⟩
   | false =>
    rw [Li] at HF;go_enter Try.func89,Try.ntmps89;go_wp2_with (first|(go_at_call 58;(with_reducible refine (Gk _ _ _ _).mono ?_);rintro e w1 ⟨rfl,⟨n,rfl⟩⟩)|(go_at_call 113;(with_reducible refine (HF.out _ (ja (ta (Below.refl _ _) _) _)).mono ?_);rintro e w1 ⟨rfl,hb⟩;have HB:=ia.mk (Ra (ja (ta (Below.refl _ _) _) _) hb);obtain ⟨fW,GU⟩:=bY hb;have sO:=hb.size;simp at sO;clear hb)|(go_at_call 115;(with_reducible refine (wE _ _ _ _ _ _ _).mono ?_);rintro e w2 ⟨rfl,hb⟩;have Zo:=ia.mk (Ra (ja HB.out _) hb);clear hb))
    all_goals
     go_ret
     first
      | exact ⟨by simp [*],Zo.out⟩
      | exact ⟨by simp [*],ja HB.out _⟩
def Rg.f (Ua:List Int) (Ja:Int) (La:Int) (nH:List (Jx)):Option Bool:=if nH.length=0 then some (Ht Ua Ja La) else none
theorem Rg.calls (zb:Option Addr) (yb:Nat) (Ua:List Int) (Ja:Int) (La:Int) (P5:Option Addr) (P3:Nat) (nH:List (Jx)) (r:Bool) (w:World) (Pf:Kd.C (Kd.int .i64) w zb Ua.length Ua) (Lf:Ua.length ≤ yb) (jau:Kd.C tap w P5 nH.length nH) (Qaw:nH.length ≤ P3) (h:Rg.f Ua Ja La nH=some r) :
  Calls Try.prog 89 #[.agg #[.slice zb Ua.length yb,.int .i64 Ja,.int .i64 La,.slice P5 nH.length P3]] w fun e w'=>e = .returned (.bool r)∧Below w.heap.size w w':=by
 unfold Rg.f at h
 split at h
 ·rename_i h0;injection h with h
  subst h;rw [h0];exact vB zb P5 yb P3 Ua Ja La w Pf Lf
 ·cases h
theorem Lae (d:Nat) (w:World) (x0 y0:Int) (x1 y1:Int) (x2 y2:Int) (x3 y3:Int) (x4 y4:Int) (x5 y5:Int) (x6 y6:ByteArray) :
  (Op.equalIn (d + 2) 70 (.agg #[.int .i64 x0,.int .i64 x1,.int .i64 x2,.int .i64 x3,.int .i64 x4,.int .i64 x5,.string x6]) (.agg #[.int .i64 y0,.int .i64 y1,.int .i64 y2,.int .i64 y3,.int .i64 y4,.int .i64 y5,.string y6])).run Try.prog w = .ok (x0 == y0 && (x1 == y1 && (x2 == y2 && (x3 == y3 && (x4 == y4 && (x5 == y5 && (x6.toList == y6.toList))))))) w:=by
 refine D2 Try.underlying70 (by kernel_rfl) ?_;refine Ep (by rfl) (by go_simp;rfl) (by go_simp;rfl) (by go_simp) ?_;refine Ep (by rfl) (by go_simp;rfl) (by go_simp;rfl) (by go_simp) ?_;refine Ep (by rfl) (by go_simp;rfl) (by go_simp;rfl) (by go_simp) ?_;refine Ep (by rfl) (by go_simp;rfl) (by go_simp;rfl) (by go_simp) ?_;refine Ep (by rfl) (by go_simp;rfl) (by go_simp;rfl) (by go_simp) ?_;refine Ep (by rfl) (by go_simp;rfl) (by go_simp;rfl) (by go_simp) ?_;exact gQ (by rfl) (by go_simp;rfl) (by go_simp;rfl) (by go_simp)
attribute [local go_sem high] Lae
def dH:List ByteArray:=[⟨#[61,61]⟩,⟨#[60]⟩,⟨#[38]⟩,⟨#[43]⟩,⟨#[45]⟩,⟨#[42]⟩]
def wu (s:ByteArray):Bool:=dH.any fun y=>decide (s.toList=y.toList)
theorem xM (s:ByteArray):Nm.f 8 s=some (wu s):=by
 unfold Nm.f jd.f Ab.f wu dH;simp only [Ab.l0,List.any_cons,List.any_nil]
 by_cases h0:s.toList=[61,61]
 ·simp [Ah,h0]
 by_cases h1:s.toList=[60]
 ·simp [Ah,h1,wrap64]
 by_cases h2:s.toList=[38]
 ·simp [Ah,h2,wrap64]
 by_cases h3:s.toList=[43]
 ·simp [Ah,h3,wrap64]
 by_cases h4:s.toList=[45]
 ·simp [Ah,h4,wrap64]
 by_cases h5:s.toList=[42]
 ·simp [Ah,h5,wrap64]
 simp [Ah,h0,h1,h2,h3,h4,h5,wrap64]
theorem oH (s:ByteArray) (w:World):Calls Try.prog 136 #[.string s] w fun e w'=>e = .returned (.bool (wu s))∧Below w.heap.size w w':=Nm.calls 8 s (wu s) w (xM s)
def nk (slots s:Int):Bool:=decide (0 ≤ s) && decide (s < slots)
theorem Cj (B:Nat) (slots s:Int) (W:World) (Bx:W.cell? ⟨B,3,none⟩=some (.int .i64 slots)):Calls Try.prog 135 #[.int .i64 s,.pointer (some ⟨B,0,none⟩)] W fun e w'=>e = .returned (.bool (nk slots s))∧W=w':=by
 unfold nk
 by_cases h:0 ≤ s
 all_goals
  go_enter Try.func135,Try.ntmps135;go_wp2;go_ret;exact ⟨by simp [*];try omega,rfl⟩
theorem FM (A0 A4:Option Addr) (c0 c4 n0 n4:Nat) (p1 p2 slots d a b c n:Int) (t:ByteArray) (w:World) (hn0:n0 ≤ 9223372036854775807) (LB:n4 ≤ 9223372036854775807) :
  Calls Try.prog 118 #[.agg #[.slice A0 n0 c0,.int .i64 p1,.int .i64 p2,.int .i64 slots,.slice A4 n4 c4],.agg #[.int .i64 0,.int .i64 d,.int .i64 a,.int .i64 b,.int .i64 c,.int .i64 n,.string t]] w fun e w'=>e = .returned (.bool (nk slots d && (a == 0 && (b == 0 && (c == 0 && t.toList.isEmpty)))))∧Below w.heap.size w w':=by
 obtain ⟨W1,dg⟩:∃ W1,W1=(w.alloc (.cells #[.slice A0 n0 c0,.int .i64 p1,.int .i64 p2,.int .i64 slots,.slice A4 n4 c4] 30 (0,0))).alloc (.cells #[.int .i64 0,.int .i64 d,.int .i64 a,.int .i64 b,.int .i64 c,.int .i64 n,.string t] 70 (0,0)):=⟨_,rfl⟩;have HW:=ia.mk dg;have HB:=ia.mk (show Below w.heap.size w W1 from by rw [dg];exact ta (ta (Below.refl _ _) _) _);have hz:W1.heap.size=w.heap.size + 2:=by rw [dg];simp
 have xS:W1.cell? ⟨w.heap.size,3,none⟩=some (.int .i64 slots):=by rw [dg];simp
 have hx0:W1.cell? ⟨w.heap.size + 1,0,none⟩=some (.int .i64 0):=by rw [dg];simp
 have hx1:W1.cell? ⟨w.heap.size + 1,1,none⟩=some (.int .i64 d):=by rw [dg];simp
 have cn:W1.cell? ⟨w.heap.size + 1,2,none⟩=some (.int .i64 a):=by rw [dg];simp
 have Zl:W1.cell? ⟨w.heap.size + 1,3,none⟩=some (.int .i64 b):=by rw [dg];simp
 have Zm:W1.cell? ⟨w.heap.size + 1,4,none⟩=some (.int .i64 c):=by rw [dg];simp
 have ju:W1.cell? ⟨w.heap.size + 1,5,none⟩=some (.int .i64 n):=by rw [dg];simp
 have iu:W1.cell? ⟨w.heap.size + 1,6,none⟩=some (.string t):=by rw [dg];simp
 clear dg;go_enter Try.func118,Try.ntmps118;go_wp2_with (first|(go_at_call 58;(with_reducible refine (Gk _ _ _ _).mono ?_);rintro e w1 ⟨rfl,⟨k1,rfl⟩⟩));rw [← HW.out];clear HW
 go_region
 all_goals go_wp2_with (first|(go_at_call 135;(refine (Cj _ slots _ _ ?hc).mono ?_);(case hc=>first|(go_simp;done)|(go_simp;rfl));rintro e w1 ⟨rfl,rfl⟩))
 all_goals go_ret
 all_goals exact ⟨by (try clear fW GU sO Zo);simp [*],by repeat (first|exact HB.out|(refine Ra ?_ Zo.out)|apply ja|apply ua|apply ta|refine Aa ?_ (by first|omega|(simp;done)|(simp;omega)))⟩
theorem EM (A0 A4:Option Addr) (c0 c4 n0 n4:Nat) (p1 p2 slots d a b c n:Int) (t:ByteArray) (w:World) (hn0:n0 ≤ 9223372036854775807) (LB:n4 ≤ 9223372036854775807) :
  Calls Try.prog 118 #[.agg #[.slice A0 n0 c0,.int .i64 p1,.int .i64 p2,.int .i64 slots,.slice A4 n4 c4],.agg #[.int .i64 1,.int .i64 d,.int .i64 a,.int .i64 b,.int .i64 c,.int .i64 n,.string t]] w fun e w'=>e = .returned (.bool (nk slots d && nk slots a && (b == 0 && (c == 0 && (n == 0 && t.toList.isEmpty)))))∧Below w.heap.size w w':=by
 obtain ⟨W1,dg⟩:∃ W1,W1=(w.alloc (.cells #[.slice A0 n0 c0,.int .i64 p1,.int .i64 p2,.int .i64 slots,.slice A4 n4 c4] 30 (0,0))).alloc (.cells #[.int .i64 1,.int .i64 d,.int .i64 a,.int .i64 b,.int .i64 c,.int .i64 n,.string t] 70 (0,0)):=⟨_,rfl⟩;have HW:=ia.mk dg;have HB:=ia.mk (show Below w.heap.size w W1 from by rw [dg];exact ta (ta (Below.refl _ _) _) _);have hz:W1.heap.size=w.heap.size + 2:=by rw [dg];simp
 have xS:W1.cell? ⟨w.heap.size,3,none⟩=some (.int .i64 slots):=by rw [dg];simp
 have hx0:W1.cell? ⟨w.heap.size + 1,0,none⟩=some (.int .i64 1):=by rw [dg];simp
 have hx1:W1.cell? ⟨w.heap.size + 1,1,none⟩=some (.int .i64 d):=by rw [dg];simp
 have cn:W1.cell? ⟨w.heap.size + 1,2,none⟩=some (.int .i64 a):=by rw [dg];simp
 have Zl:W1.cell? ⟨w.heap.size + 1,3,none⟩=some (.int .i64 b):=by rw [dg];simp
 have Zm:W1.cell? ⟨w.heap.size + 1,4,none⟩=some (.int .i64 c):=by rw [dg];simp
 have ju:W1.cell? ⟨w.heap.size + 1,5,none⟩=some (.int .i64 n):=by rw [dg];simp
 have iu:W1.cell? ⟨w.heap.size + 1,6,none⟩=some (.string t):=by rw [dg];simp
 clear dg;go_enter Try.func118,Try.ntmps118;go_wp2_with (first|(go_at_call 58;(with_reducible refine (Gk _ _ _ _).mono ?_);rintro e w1 ⟨rfl,⟨k1,rfl⟩⟩));rw [← HW.out];clear HW
 go_region
 all_goals go_wp2_with (first|(go_at_call 135;(refine (Cj _ slots _ _ ?hc).mono ?_);(case hc=>first|(go_simp;done)|(go_simp;rfl));rintro e w1 ⟨rfl,rfl⟩))
 all_goals go_ret
 all_goals exact ⟨by (try clear fW GU sO Zo);simp [*],by repeat (first|exact HB.out|(refine Ra ?_ Zo.out)|apply ja|apply ua|apply ta|refine Aa ?_ (by first|omega|(simp;done)|(simp;omega)))⟩
theorem DM (A0 A4:Option Addr) (c0 c4 n0 n4:Nat) (p1 p2 slots d a b c n:Int) (t:ByteArray) (w:World) (hn0:n0 ≤ 9223372036854775807) (LB:n4 ≤ 9223372036854775807) :
  Calls Try.prog 118 #[.agg #[.slice A0 n0 c0,.int .i64 p1,.int .i64 p2,.int .i64 slots,.slice A4 n4 c4],.agg #[.int .i64 2,.int .i64 d,.int .i64 a,.int .i64 b,.int .i64 c,.int .i64 n,.string t]] w fun e w'=>e = .returned (.bool (nk slots d && nk slots a && nk slots b && wu t && (c == 0 && n == 0)))∧Below w.heap.size w w':=by
 obtain ⟨W1,dg⟩:∃ W1,W1=(w.alloc (.cells #[.slice A0 n0 c0,.int .i64 p1,.int .i64 p2,.int .i64 slots,.slice A4 n4 c4] 30 (0,0))).alloc (.cells #[.int .i64 2,.int .i64 d,.int .i64 a,.int .i64 b,.int .i64 c,.int .i64 n,.string t] 70 (0,0)):=⟨_,rfl⟩;have HW:=ia.mk dg;have HB:=ia.mk (show Below w.heap.size w W1 from by rw [dg];exact ta (ta (Below.refl _ _) _) _);have hz:W1.heap.size=w.heap.size + 2:=by rw [dg];simp
 have xS:W1.cell? ⟨w.heap.size,3,none⟩=some (.int .i64 slots):=by rw [dg];simp
 have hx0:W1.cell? ⟨w.heap.size + 1,0,none⟩=some (.int .i64 2):=by rw [dg];simp
 have hx1:W1.cell? ⟨w.heap.size + 1,1,none⟩=some (.int .i64 d):=by rw [dg];simp
 have cn:W1.cell? ⟨w.heap.size + 1,2,none⟩=some (.int .i64 a):=by rw [dg];simp
 have Zl:W1.cell? ⟨w.heap.size + 1,3,none⟩=some (.int .i64 b):=by rw [dg];simp
 have Zm:W1.cell? ⟨w.heap.size + 1,4,none⟩=some (.int .i64 c):=by rw [dg];simp
 have ju:W1.cell? ⟨w.heap.size + 1,5,none⟩=some (.int .i64 n):=by rw [dg];simp
 have iu:W1.cell? ⟨w.heap.size + 1,6,none⟩=some (.string t):=by rw [dg];simp
 clear dg;go_enter Try.func118,Try.ntmps118;go_wp2_with (first|(go_at_call 58;(with_reducible refine (Gk _ _ _ _).mono ?_);rintro e w1 ⟨rfl,⟨k1,rfl⟩⟩));rw [← HW.out];clear HW
 go_region
 all_goals go_wp2_with (first|(go_at_call 135;(refine (Cj _ slots _ _ ?hc).mono ?_);(case hc=>first|(go_simp;done)|(go_simp;rfl));rintro e w1 ⟨rfl,rfl⟩)|(go_at_call 136;(with_reducible refine (oH _ _).mono ?_);rintro e w2 ⟨rfl,Li⟩;have Zo:=ia.mk Li;obtain ⟨fW,GU⟩:=bY Li;have sO:=Li.size;simp at sO;clear Li))
 all_goals go_ret
 all_goals exact ⟨by (try clear fW GU sO Zo);simp [*],by repeat (first|exact HB.out|(refine Ra ?_ Zo.out)|apply ja|apply ua|apply ta|refine Aa ?_ (by first|omega|(simp;done)|(simp;omega)))⟩
theorem CM (A0 A4:Option Addr) (c0 c4 n0 n4:Nat) (p1 p2 slots d a b c n:Int) (t:ByteArray) (w:World) (hn0:n0 ≤ 9223372036854775807) (LB:n4 ≤ 9223372036854775807) :
  Calls Try.prog 118 #[.agg #[.slice A0 n0 c0,.int .i64 p1,.int .i64 p2,.int .i64 slots,.slice A4 n4 c4],.agg #[.int .i64 3,.int .i64 d,.int .i64 a,.int .i64 b,.int .i64 c,.int .i64 n,.string t]] w fun e w'=>e = .returned (.bool (nk slots d && nk slots b && Nk n 0 ((n0:Int) - 1) && (nk slots a || a == -1) && (c == 0 && t.toList.isEmpty)))∧Below w.heap.size w w':=by
 obtain ⟨W1,dg⟩:∃ W1,W1=(w.alloc (.cells #[.slice A0 n0 c0,.int .i64 p1,.int .i64 p2,.int .i64 slots,.slice A4 n4 c4] 30 (0,0))).alloc (.cells #[.int .i64 3,.int .i64 d,.int .i64 a,.int .i64 b,.int .i64 c,.int .i64 n,.string t] 70 (0,0)):=⟨_,rfl⟩;have HW:=ia.mk dg;have HB:=ia.mk (show Below w.heap.size w W1 from by rw [dg];exact ta (ta (Below.refl _ _) _) _);have hz:W1.heap.size=w.heap.size + 2:=by rw [dg];simp
 have xS:W1.cell? ⟨w.heap.size,3,none⟩=some (.int .i64 slots):=by rw [dg];simp
 have hx0:W1.cell? ⟨w.heap.size + 1,0,none⟩=some (.int .i64 3):=by rw [dg];simp
 have hx1:W1.cell? ⟨w.heap.size + 1,1,none⟩=some (.int .i64 d):=by rw [dg];simp
 have cn:W1.cell? ⟨w.heap.size + 1,2,none⟩=some (.int .i64 a):=by rw [dg];simp
 have Zl:W1.cell? ⟨w.heap.size + 1,3,none⟩=some (.int .i64 b):=by rw [dg];simp
 have Zm:W1.cell? ⟨w.heap.size + 1,4,none⟩=some (.int .i64 c):=by rw [dg];simp
 have ju:W1.cell? ⟨w.heap.size + 1,5,none⟩=some (.int .i64 n):=by rw [dg];simp
 have iu:W1.cell? ⟨w.heap.size + 1,6,none⟩=some (.string t):=by rw [dg];simp
 clear dg;go_enter Try.func118,Try.ntmps118;go_wp2_with (first|(go_at_call 58;(with_reducible refine (Gk _ _ _ _).mono ?_);rintro e w1 ⟨rfl,⟨k1,rfl⟩⟩));rw [← HW.out];clear HW
 go_region
 all_goals go_wp2_with (first|(go_at_call 135;(refine (Cj _ slots _ _ ?hc).mono ?_);(case hc=>first|(go_simp;done)|(go_simp;rfl));rintro e w1 ⟨rfl,rfl⟩))
 all_goals go_ret
 all_goals exact ⟨by (try clear fW GU sO Zo);simp [*],by repeat (first|exact HB.out|(refine Ra ?_ Zo.out)|apply ja|apply ua|apply ta|refine Aa ?_ (by first|omega|(simp;done)|(simp;omega)))⟩
theorem BM (A0 A4:Option Addr) (c0 c4 n0 n4:Nat) (p1 p2 slots d a b c n:Int) (t:ByteArray) (w:World) (hn0:n0 ≤ 9223372036854775807) (LB:n4 ≤ 9223372036854775807) :
  Calls Try.prog 118 #[.agg #[.slice A0 n0 c0,.int .i64 p1,.int .i64 p2,.int .i64 slots,.slice A4 n4 c4],.agg #[.int .i64 4,.int .i64 d,.int .i64 a,.int .i64 b,.int .i64 c,.int .i64 n,.string t]] w fun e w'=>e = .returned (.bool (nk slots c && nk slots b && Nk n 0 ((n0:Int) - 1) && (nk slots a || a == -1) && (d == 0 && t.toList.isEmpty)))∧Below w.heap.size w w':=by
 obtain ⟨W1,dg⟩:∃ W1,W1=(w.alloc (.cells #[.slice A0 n0 c0,.int .i64 p1,.int .i64 p2,.int .i64 slots,.slice A4 n4 c4] 30 (0,0))).alloc (.cells #[.int .i64 4,.int .i64 d,.int .i64 a,.int .i64 b,.int .i64 c,.int .i64 n,.string t] 70 (0,0)):=⟨_,rfl⟩;have HW:=ia.mk dg;have HB:=ia.mk (show Below w.heap.size w W1 from by rw [dg];exact ta (ta (Below.refl _ _) _) _);have hz:W1.heap.size=w.heap.size + 2:=by rw [dg];simp
 have xS:W1.cell? ⟨w.heap.size,3,none⟩=some (.int .i64 slots):=by rw [dg];simp
 have hx0:W1.cell? ⟨w.heap.size + 1,0,none⟩=some (.int .i64 4):=by rw [dg];simp
 have hx1:W1.cell? ⟨w.heap.size + 1,1,none⟩=some (.int .i64 d):=by rw [dg];simp
 have cn:W1.cell? ⟨w.heap.size + 1,2,none⟩=some (.int .i64 a):=by rw [dg];simp
 have Zl:W1.cell? ⟨w.heap.size + 1,3,none⟩=some (.int .i64 b):=by rw [dg];simp
 have Zm:W1.cell? ⟨w.heap.size + 1,4,none⟩=some (.int .i64 c):=by rw [dg];simp
 have ju:W1.cell? ⟨w.heap.size + 1,5,none⟩=some (.int .i64 n):=by rw [dg];simp
 have iu:W1.cell? ⟨w.heap.size + 1,6,none⟩=some (.string t):=by rw [dg];simp
 clear dg;go_enter Try.func118,Try.ntmps118;go_wp2_with (first|(go_at_call 58;(with_reducible refine (Gk _ _ _ _).mono ?_);rintro e w1 ⟨rfl,⟨k1,rfl⟩⟩));rw [← HW.out];clear HW
 go_region
 all_goals go_wp2_with (first|(go_at_call 135;(refine (Cj _ slots _ _ ?hc).mono ?_);(case hc=>first|(go_simp;done)|(go_simp;rfl));rintro e w1 ⟨rfl,rfl⟩))
 all_goals go_ret
 all_goals exact ⟨by (try clear fW GU sO Zo);simp [*],by repeat (first|exact HB.out|(refine Ra ?_ Zo.out)|apply ja|apply ua|apply ta|refine Aa ?_ (by first|omega|(simp;done)|(simp;omega)))⟩
theorem zM (A0 A4:Option Addr) (c0 c4 n0 n4:Nat) (p1 p2 slots d a b c n:Int) (t:ByteArray) (w:World) (hn0:n0 ≤ 9223372036854775807) (LB:n4 ≤ 9223372036854775807) :
  Calls Try.prog 118 #[.agg #[.slice A0 n0 c0,.int .i64 p1,.int .i64 p2,.int .i64 slots,.slice A4 n4 c4],.agg #[.int .i64 5,.int .i64 d,.int .i64 a,.int .i64 b,.int .i64 c,.int .i64 n,.string t]] w fun e w'=>e = .returned (.bool (nk slots d && (a == 0 && (b == 0 && (c == 0 && (n == 0 && t.toList.isEmpty))))))∧Below w.heap.size w w':=by
 obtain ⟨W1,dg⟩:∃ W1,W1=(w.alloc (.cells #[.slice A0 n0 c0,.int .i64 p1,.int .i64 p2,.int .i64 slots,.slice A4 n4 c4] 30 (0,0))).alloc (.cells #[.int .i64 5,.int .i64 d,.int .i64 a,.int .i64 b,.int .i64 c,.int .i64 n,.string t] 70 (0,0)):=⟨_,rfl⟩;have HW:=ia.mk dg;have HB:=ia.mk (show Below w.heap.size w W1 from by rw [dg];exact ta (ta (Below.refl _ _) _) _);have hz:W1.heap.size=w.heap.size + 2:=by rw [dg];simp
 have xS:W1.cell? ⟨w.heap.size,3,none⟩=some (.int .i64 slots):=by rw [dg];simp
 have hx0:W1.cell? ⟨w.heap.size + 1,0,none⟩=some (.int .i64 5):=by rw [dg];simp
 have hx1:W1.cell? ⟨w.heap.size + 1,1,none⟩=some (.int .i64 d):=by rw [dg];simp
 have cn:W1.cell? ⟨w.heap.size + 1,2,none⟩=some (.int .i64 a):=by rw [dg];simp
 have Zl:W1.cell? ⟨w.heap.size + 1,3,none⟩=some (.int .i64 b):=by rw [dg];simp
 have Zm:W1.cell? ⟨w.heap.size + 1,4,none⟩=some (.int .i64 c):=by rw [dg];simp
 have ju:W1.cell? ⟨w.heap.size + 1,5,none⟩=some (.int .i64 n):=by rw [dg];simp
 have iu:W1.cell? ⟨w.heap.size + 1,6,none⟩=some (.string t):=by rw [dg];simp
 clear dg;go_enter Try.func118,Try.ntmps118;go_wp2_with (first|(go_at_call 58;(with_reducible refine (Gk _ _ _ _).mono ?_);rintro e w1 ⟨rfl,⟨k1,rfl⟩⟩));rw [← HW.out];clear HW
 go_region
 all_goals go_wp2_with (first|(go_at_call 135;(refine (Cj _ slots _ _ ?hc).mono ?_);(case hc=>first|(go_simp;done)|(go_simp;rfl));rintro e w1 ⟨rfl,rfl⟩))
 all_goals go_ret
 all_goals exact ⟨by (try clear fW GU sO Zo);simp [*],by repeat (first|exact HB.out|(refine Ra ?_ Zo.out)|apply ja|apply ua|apply ta|refine Aa ?_ (by first|omega|(simp;done)|(simp;omega)))⟩
theorem yM (A0 A4:Option Addr) (c0 c4 n0 n4:Nat) (p1 p2 slots d a b c n:Int) (t:ByteArray) (w:World) (hn0:n0 ≤ 9223372036854775807) (LB:n4 ≤ 9223372036854775807) :
  Calls Try.prog 118 #[.agg #[.slice A0 n0 c0,.int .i64 p1,.int .i64 p2,.int .i64 slots,.slice A4 n4 c4],.agg #[.int .i64 6,.int .i64 d,.int .i64 a,.int .i64 b,.int .i64 c,.int .i64 n,.string t]] w fun e w'=>e = .returned (.bool (nk slots a && (d == 0 && (b == 0 && (c == 0 && (n == 0 && t.toList.isEmpty))))))∧Below w.heap.size w w':=by
 obtain ⟨W1,dg⟩:∃ W1,W1=(w.alloc (.cells #[.slice A0 n0 c0,.int .i64 p1,.int .i64 p2,.int .i64 slots,.slice A4 n4 c4] 30 (0,0))).alloc (.cells #[.int .i64 6,.int .i64 d,.int .i64 a,.int .i64 b,.int .i64 c,.int .i64 n,.string t] 70 (0,0)):=⟨_,rfl⟩;have HW:=ia.mk dg;have HB:=ia.mk (show Below w.heap.size w W1 from by rw [dg];exact ta (ta (Below.refl _ _) _) _);have hz:W1.heap.size=w.heap.size + 2:=by rw [dg];simp
 have xS:W1.cell? ⟨w.heap.size,3,none⟩=some (.int .i64 slots):=by rw [dg];simp
 have hx0:W1.cell? ⟨w.heap.size + 1,0,none⟩=some (.int .i64 6):=by rw [dg];simp
 have hx1:W1.cell? ⟨w.heap.size + 1,1,none⟩=some (.int .i64 d):=by rw [dg];simp
 have cn:W1.cell? ⟨w.heap.size + 1,2,none⟩=some (.int .i64 a):=by rw [dg];simp
 have Zl:W1.cell? ⟨w.heap.size + 1,3,none⟩=some (.int .i64 b):=by rw [dg];simp
 have Zm:W1.cell? ⟨w.heap.size + 1,4,none⟩=some (.int .i64 c):=by rw [dg];simp
 have ju:W1.cell? ⟨w.heap.size + 1,5,none⟩=some (.int .i64 n):=by rw [dg];simp
 have iu:W1.cell? ⟨w.heap.size + 1,6,none⟩=some (.string t):=by rw [dg];simp
 clear dg;go_enter Try.func118,Try.ntmps118;go_wp2_with (first|(go_at_call 58;(with_reducible refine (Gk _ _ _ _).mono ?_);rintro e w1 ⟨rfl,⟨k1,rfl⟩⟩));rw [← HW.out];clear HW
 go_region
 all_goals go_wp2_with (first|(go_at_call 135;(refine (Cj _ slots _ _ ?hc).mono ?_);(case hc=>first|(go_simp;done)|(go_simp;rfl));rintro e w1 ⟨rfl,rfl⟩))
 all_goals go_ret
 all_goals exact ⟨by (try clear fW GU sO Zo);simp [*],by repeat (first|exact HB.out|(refine Ra ?_ Zo.out)|apply ja|apply ua|apply ta|refine Aa ?_ (by first|omega|(simp;done)|(simp;omega)))⟩
theorem pH (A0 A4:Option Addr) (c0 c4 n0 n4:Nat) (p1 p2 slots d a b c n:Int) (t:ByteArray) (w:World) (hn0:n0 ≤ 9223372036854775807) (LB:n4 ≤ 9223372036854775807) (o:Int) (h0:(o == 0)=false) (h1:(o == 1)=false) (h2:(o == 2)=false) (h3:(o == 3)=false) (h4:(o == 4)=false) (h5:(o == 5)=false) (h6:(o == 6)=false) :
  Calls Try.prog 118 #[.agg #[.slice A0 n0 c0,.int .i64 p1,.int .i64 p2,.int .i64 slots,.slice A4 n4 c4],.agg #[.int .i64 o,.int .i64 d,.int .i64 a,.int .i64 b,.int .i64 c,.int .i64 n,.string t]] w fun e w'=>e = .returned (.bool (false))∧Below w.heap.size w w':=by
 obtain ⟨W1,dg⟩:∃ W1,W1=(w.alloc (.cells #[.slice A0 n0 c0,.int .i64 p1,.int .i64 p2,.int .i64 slots,.slice A4 n4 c4] 30 (0,0))).alloc (.cells #[.int .i64 o,.int .i64 d,.int .i64 a,.int .i64 b,.int .i64 c,.int .i64 n,.string t] 70 (0,0)):=⟨_,rfl⟩;have HW:=ia.mk dg;have HB:=ia.mk (show Below w.heap.size w W1 from by rw [dg];exact ta (ta (Below.refl _ _) _) _);have hz:W1.heap.size=w.heap.size + 2:=by rw [dg];simp
 have xS:W1.cell? ⟨w.heap.size,3,none⟩=some (.int .i64 slots):=by rw [dg];simp
 have hx0:W1.cell? ⟨w.heap.size + 1,0,none⟩=some (.int .i64 o):=by rw [dg];simp
 have hx1:W1.cell? ⟨w.heap.size + 1,1,none⟩=some (.int .i64 d):=by rw [dg];simp
 have cn:W1.cell? ⟨w.heap.size + 1,2,none⟩=some (.int .i64 a):=by rw [dg];simp
 have Zl:W1.cell? ⟨w.heap.size + 1,3,none⟩=some (.int .i64 b):=by rw [dg];simp
 have Zm:W1.cell? ⟨w.heap.size + 1,4,none⟩=some (.int .i64 c):=by rw [dg];simp
 have ju:W1.cell? ⟨w.heap.size + 1,5,none⟩=some (.int .i64 n):=by rw [dg];simp
 have iu:W1.cell? ⟨w.heap.size + 1,6,none⟩=some (.string t):=by rw [dg];simp
 clear dg;go_enter Try.func118,Try.ntmps118;go_wp2_with (first|(go_at_call 58;(with_reducible refine (Gk _ _ _ _).mono ?_);rintro e w1 ⟨rfl,⟨k1,rfl⟩⟩));rw [← HW.out];clear HW
 go_region
 all_goals go_wp2_with (first|(go_at_call 135;(refine (Cj _ slots _ _ ?hc).mono ?_);(case hc=>first|(go_simp;done)|(go_simp;rfl));rintro e w1 ⟨rfl,rfl⟩))
 all_goals go_ret
 all_goals exact ⟨by (try clear fW GU sO Zo);simp [*],by repeat (first|exact HB.out|(refine Ra ?_ Zo.out)|apply ja|apply ua|apply ta|refine Aa ?_ (by first|omega|(simp;done)|(simp;omega)))⟩
def Xk (n0:Nat) (slots:Int) (o d a b c n:Int) (t:ByteArray):Bool :=
 if o=0 then nk slots d && (a == 0 && (b == 0 && (c == 0 && t.toList.isEmpty)))
 else if o=1 then nk slots d && nk slots a && (b == 0 && (c == 0 && (n == 0 && t.toList.isEmpty)))
 else if o=2 then nk slots d && nk slots a && nk slots b && wu t && (c == 0 && n == 0)
 else if o=3 then nk slots d && nk slots b && Nk n 0 ((n0:Int) - 1) && (nk slots a || a == -1) && (c == 0 && t.toList.isEmpty)
 else if o=4 then nk slots c && nk slots b && Nk n 0 ((n0:Int) - 1) && (nk slots a || a == -1) && (d == 0 && t.toList.isEmpty)
 else if o=5 then nk slots d && (a == 0 && (b == 0 && (c == 0 && (n == 0 && t.toList.isEmpty))))
 else if o=6 then nk slots a && (d == 0 && (b == 0 && (c == 0 && (n == 0 && t.toList.isEmpty))))
 else false
theorem sF (A0 A4:Option Addr) (c0 c4 n0 n4:Nat) (p1 p2 slots:Int) (w:World) (hn0:n0 ≤ 9223372036854775807) (LB:n4 ≤ 9223372036854775807) (o d a b c n:Int) (t:ByteArray) :
  Calls Try.prog 118 #[.agg #[.slice A0 n0 c0,.int .i64 p1,.int .i64 p2,.int .i64 slots,.slice A4 n4 c4],.agg #[.int .i64 o,.int .i64 d,.int .i64 a,.int .i64 b,.int .i64 c,.int .i64 n,.string t]] w fun e w'=>e = .returned (.bool (Xk n0 slots o d a b c n t))∧Below w.heap.size w w':=by
 unfold Xk
 by_cases h0:o=0
 ·rw [if_pos h0,h0];exact FM A0 A4 c0 c4 n0 n4 p1 p2 slots d a b c n t w hn0 LB
 rw [if_neg h0]
 by_cases h1:o=1
 ·rw [if_pos h1,h1];exact EM A0 A4 c0 c4 n0 n4 p1 p2 slots d a b c n t w hn0 LB
 rw [if_neg h1]
 by_cases h2:o=2
 ·rw [if_pos h2,h2];exact DM A0 A4 c0 c4 n0 n4 p1 p2 slots d a b c n t w hn0 LB
 rw [if_neg h2]
 by_cases h3:o=3
 ·rw [if_pos h3,h3];exact CM A0 A4 c0 c4 n0 n4 p1 p2 slots d a b c n t w hn0 LB
 rw [if_neg h3]
 by_cases h4:o=4
 ·rw [if_pos h4,h4];exact BM A0 A4 c0 c4 n0 n4 p1 p2 slots d a b c n t w hn0 LB
 rw [if_neg h4]
 by_cases h5:o=5
 ·rw [if_pos h5,h5];exact zM A0 A4 c0 c4 n0 n4 p1 p2 slots d a b c n t w hn0 LB
 rw [if_neg h5]
 by_cases h6:o=6
 ·rw [if_pos h6,h6];exact yM A0 A4 c0 c4 n0 n4 p1 p2 slots d a b c n t w hn0 LB
 rw [if_neg h6];exact pH A0 A4 c0 c4 n0 n4 p1 p2 slots d a b c n t w hn0 LB o (beq_eq_false_iff_ne.mpr h0) (beq_eq_false_iff_ne.mpr h1) (beq_eq_false_iff_ne.mpr h2) (beq_eq_false_iff_ne.mpr h3) (beq_eq_false_iff_ne.mpr h4) (beq_eq_false_iff_ne.mpr h5) (beq_eq_false_iff_ne.mpr h6)
def Wk (n0:Nat) (slots:Int) (x:ue):Bool:=Xk n0 slots x.f0 x.f1 x.f2 x.f3 x.f4 x.f5 x.f6
def Yj (n0:Nat) (slots:Int) (n4:Nat) (code:List ue) (j a tg els:Int):Bool :=
 !(code.any fun x=>!Wk n0 slots x) && decide (0 ≤ slots) &&
  (if j=0 then Nk tg 0 ((n4:Int) - 1) && a == 0 && els == 0
   else if j=1 then Nk tg 0 ((n4:Int) - 1) && Nk els 0 ((n4:Int) - 1) && nk slots a
   else if j=2 then nk slots a && tg == 0 && els == 0
   else false)
theorem GM (B:Nat) (A0 A4:Option Addr) (c0 c4 n0 n4:Nat) (p1 p2 slots:Int) (hn0:n0 ≤ 9223372036854775807) (LB:n4 ≤ 9223372036854775807) (W:World) (x:ue)
  (hb0:W.cell? ⟨B,0,none⟩=some (.slice A0 n0 c0)) (Sm:W.cell? ⟨B,1,none⟩=some (.int .i64 p1)) (Li:W.cell? ⟨B,2,none⟩=some (.int .i64 p2)) (Bx:W.cell? ⟨B,3,none⟩=some (.int .i64 slots)) (YP:W.cell? ⟨B,4,none⟩=some (.slice A4 n4 c4)) (hB:B < W.heap.size) :
  Calls Try.prog 117 #[.agg #[.int .i64 x.f0,.int .i64 x.f1,.int .i64 x.f2,.int .i64 x.f3,.int .i64 x.f4,.int .i64 x.f5,.string x.f6],.pointer (some ⟨B,0,none⟩)] W
   fun e w'=>e = .returned (.bool (!Wk n0 slots x))∧Below W.heap.size W w':=by
 have hne:B ≠ W.heap.size:=by omega
 unfold Wk;have HC:=ia.mk (fun W'=>sF A0 A4 c0 c4 n0 n4 p1 p2 slots W' hn0 LB x.f0 x.f1 x.f2 x.f3 x.f4 x.f5 x.f6);generalize Xk n0 slots x.f0 x.f1 x.f2 x.f3 x.f4 x.f5 x.f6=b at HC ⊢;go_enter Try.func117,Try.ntmps117;go_wp2_with (go_at_call 118;(with_reducible refine (HC.out _).mono ?_);rintro e w1 ⟨rfl,hb⟩;have HD:=ia.mk (Ra (ta (Below.refl _ _) _) hb);clear hb);go_ret;exact ⟨rfl,HD.out⟩
theorem uF (A0 A4 A5:Option Addr) (c0 c4 c5 n0 n4:Nat) (p1 p2 slots:Int) (l5:List ue) (j a tg els:Int) (w:World) (hn0:n0 ≤ 9223372036854775807) (LB:n4 ≤ 9223372036854775807) (RZ:Kd.C Di w A5 l5.length l5) (hc5:l5.length ≤ c5) :
  Calls Try.prog 90 #[.agg #[.slice A0 n0 c0,.int .i64 p1,.int .i64 p2,.int .i64 slots,.slice A4 n4 c4],.agg #[.slice A5 l5.length c5,.int .i64 j,.int .i64 a,.int .i64 tg,.int .i64 els]] w fun e w'=>e = .returned (.bool (Yj n0 slots n4 l5 j a tg els))∧Below w.heap.size w w':=by
 have eg:=enters_of Try.func117 (by kernel_rfl) rfl;have M8:=RZ.2.1;obtain ⟨W1,dg⟩:∃ W1,W1=(w.alloc (.cells #[.slice A0 n0 c0,.int .i64 p1,.int .i64 p2,.int .i64 slots,.slice A4 n4 c4] 30 (0,0))).alloc (.cells #[.slice A5 l5.length c5,.int .i64 j,.int .i64 a,.int .i64 tg,.int .i64 els] 68 (0,0)):=⟨_,rfl⟩;have HW:=ia.mk dg;have hB1:Below w.heap.size w W1:=by rw [dg];exact ta (ta (Below.refl _ _) _) _
 have hz:W1.heap.size=w.heap.size + 2:=by rw [dg];simp
 have fJ:W1.cell? ⟨w.heap.size,0,none⟩=some (.slice A0 n0 c0):=by rw [dg];simp
 have JF:W1.cell? ⟨w.heap.size,1,none⟩=some (.int .i64 p1):=by rw [dg];simp
 have eJ:W1.cell? ⟨w.heap.size,2,none⟩=some (.int .i64 p2):=by rw [dg];simp
 have PG:W1.cell? ⟨w.heap.size,3,none⟩=some (.int .i64 slots):=by rw [dg];simp
 have OG:W1.cell? ⟨w.heap.size,4,none⟩=some (.slice A4 n4 c4):=by rw [dg];simp
 have hx0:W1.cell? ⟨w.heap.size + 1,0,none⟩=some (.slice A5 l5.length c5):=by rw [dg];simp
 have hx1:W1.cell? ⟨w.heap.size + 1,1,none⟩=some (.int .i64 j):=by rw [dg];simp
 have cn:W1.cell? ⟨w.heap.size + 1,2,none⟩=some (.int .i64 a):=by rw [dg];simp
 have Zl:W1.cell? ⟨w.heap.size + 1,3,none⟩=some (.int .i64 tg):=by rw [dg];simp
 have Zm:W1.cell? ⟨w.heap.size + 1,4,none⟩=some (.int .i64 els):=by rw [dg];simp
 have KB:=Kd.Lb RZ hB1;clear dg RZ
 have HF:=ia.mk (Xt 117 #[.pointer (some ⟨w.heap.size,0,none⟩)] (fun x=>!Wk n0 slots x) eg A5 c5 l5 W1 KB hc5
  (fun W2 x hb'=>GM w.heap.size A0 A4 c0 c4 n0 n4 p1 p2 slots hn0 LB W2 x ((hb'.cell (p:=⟨w.heap.size,0,none⟩) (by simp;omega)).trans fJ) ((hb'.cell (p:=⟨w.heap.size,1,none⟩) (by simp;omega)).trans JF) ((hb'.cell (p:=⟨w.heap.size,2,none⟩) (by simp;omega)).trans eJ) ((hb'.cell (p:=⟨w.heap.size,3,none⟩) (by simp;omega)).trans PG) ((hb'.cell (p:=⟨w.heap.size,4,none⟩) (by simp;omega)).trans OG) (Nat.lt_of_lt_of_le (by omega) hb'.size)))
 have HB:=ia.mk hB1;clear KB hB1 eg;unfold Yj;cases hq:l5.any (fun x=>!Wk n0 slots x) with
 | true =>
  rw [hq] at HF;go_enter Try.func90,Try.ntmps90
  go_upto_region 1 with (fail)
  rw [← HW.out];clear HW;go_wp2_with (first|(go_at_call 116;(with_reducible refine HF.out.mono ?_);rintro e w2 ⟨rfl,Li⟩;have Zo:=ia.mk Li;clear Li))
  all_goals
   go_ret;exact ⟨by simp,Ra HB.out Zo.out⟩
 | false =>
  rw [hq] at HF;cases ha0:decide (0 ≤ a)
  all_goals
   go_enter Try.func90,Try.ntmps90
   go_upto_region 1 with (fail)
   rw [← HW.out];clear HW
   go_upto_region 3 with (first|(go_at_call 116;(with_reducible refine HF.out.mono ?_);rintro e w2 ⟨rfl,Li⟩;replace PG:=(Li.cell (World.block_lt_of_cell? W1 _ PG)).trans PG;replace OG:=(Li.cell (World.block_lt_of_cell? W1 _ OG)).trans OG;replace hx1:=(Li.cell (World.block_lt_of_cell? W1 _ hx1)).trans hx1;replace cn:=(Li.cell (World.block_lt_of_cell? W1 _ cn)).trans cn;replace Zl:=(Li.cell (World.block_lt_of_cell? W1 _ Zl)).trans Zl;replace Zm:=(Li.cell (World.block_lt_of_cell? W1 _ Zm)).trans Zm;have Zo:=ia.mk (Ra HB.out Li);clear Li HB fJ JF eJ hx0))
   go_quiet ((go_at_call 58;exact Calls.quiet_of ((Gk _ _ _ _).mono fun _ _ ⟨he,hm⟩=>⟨he,hm.out⟩)))
   go_wp2
   all_goals go_ret
   all_goals exact ⟨by first|(simp [nk, *];done)|(simp [nk, *];intros;omega)|(clear HF PG OG hx1 cn Zl Zm;simp_all [nk];done)|(clear HF PG OG hx1 cn Zl Zm;simp_all [nk];omega),by repeat (first|exact Zo.out|apply ja)⟩
def Si.f (Ua:List Int) (Ja:Int) (La:Int) (Pa:Int) (Qa:List (lf)) (Vc:List (ue)) (Wb:Int) (Ob:Int) (Qb:Int) (Bc:Int):Option Bool:=some (Yj Ua.length Pa Qa.length Vc Wb Ob Qb Bc)
theorem Si.calls (zb:Option Addr) (yb:Nat) (Ua:List Int) (Ja:Int) (La:Int) (Pa:Int) (Yb:Option Addr) (Nb:Nat) (Qa:List (lf)) (Vf:Option Addr) (Jf:Nat) (Vc:List (ue)) (Wb:Int) (Ob:Int) (Qb:Int) (Bc:Int) (r:Bool) (w:World) (Pf:Kd.C (Kd.int .i64) w zb Ua.length Ua) (Lf:Ua.length ≤ yb) (Ng:Kd.C Ok w Yb Qa.length Qa) (Jg:Qa.length ≤ Nb) (qt:Kd.C Di w Vf Vc.length Vc) (vt:Vc.length ≤ Jf) (h:Si.f Ua Ja La Pa Qa Vc Wb Ob Qb Bc=some r) :
  Calls Try.prog 90 #[.agg #[.slice zb Ua.length yb,.int .i64 Ja,.int .i64 La,.int .i64 Pa,.slice Yb Qa.length Nb],.agg #[.slice Vf Vc.length Jf,.int .i64 Wb,.int .i64 Ob,.int .i64 Qb,.int .i64 Bc]] w fun e w'=>e = .returned (.bool r)∧Below w.heap.size w w':=by
 injection h with h
 subst h;exact uF zb Yb Vf yb Nb Jf Ua.length Qa.length Ja La Pa Vc Wb Ob Qb Bc w Pf.2.1 Ng.2.1 qt vt
mutual
def Zb.j0:Nat→Bool→List Int→Int→Int→Int→List (lf)→Option (Bool)
 | 0,_,_,_,_,_,_=>none
 | k + 1,x29,we,ud,Dd,Xd,yd=>if x29=true then (some false) else (Zb.l0 k 0 yd (yd.length:Int) 0 we ud Dd Xd yd)
def Zb.l0:Nat→Int→List (lf)→Int→Int→List Int→Int→Int→Int→List (lf)→Option (Bool)
 | 0,_,_,_,_,_,_,_,_,_=>none
 | k + 1,x3,QW,x32,pS,we,ud,Dd,Xd,yd=>if pS < x32 then (if 0 ≤ pS then (if pS < (QW.length:Int) then ((Si.f we ud Dd Xd yd ((Oa QW pS).f0) ((Oa QW pS).f1) ((Oa QW pS).f2) ((Oa QW pS).f3) ((Oa QW pS).f4)).bind fun t107=>(if t107=true then (Zb.l0 k (wrap64 (x3 + (((Oa QW pS).f0).length:Int))) QW x32 (wrap64 (pS + 1)) we ud Dd Xd yd) else (some false))) else (none)) else (none)) else (some (decide (x3 ≤ 1000)))
end
def Zb.f (k:Nat) (Ua:List Int) (Ja:Int) (La:Int) (Pa:Int) (Qa:List (lf)):Option (Bool):=(Rg.f Ua Ja La ([]:List (Jx))).bind fun t102=>(if t102=true then ((Bh.f Pa La 1000).bind fun t103=>(if t103=true then ((Bh.f (Qa.length:Int) 1 300).bind fun t104=>(Zb.j0 k (!t104) Ua Ja La Pa Qa)) else (Zb.j0 k true Ua Ja La Pa Qa))) else (Zb.j0 k true Ua Ja La Pa Qa))
theorem Zb.calls (k:Nat) (zb:Option Addr) (yb:Nat) (Ua:List Int) (Ja:Int) (La:Int) (Pa:Int) (Yb:Option Addr) (Nb:Nat) (Qa:List (lf)) (r:Bool) (w:World) (Pf:Kd.C (Kd.int .i64) w zb Ua.length Ua) (Lf:Ua.length ≤ yb) (Ng:Kd.C Ok w Yb Qa.length Qa) (Jg:Qa.length ≤ Nb) (h:Zb.f k Ua Ja La Pa Qa=some r) :
  Calls Try.prog 57 #[.agg #[.slice zb Ua.length yb,.int .i64 Ja,.int .i64 La,.int .i64 Pa,.slice Yb Qa.length Nb]] w fun e w'=>e = .returned (.bool r)∧Below w.heap.size w w':=by
 have FF:=Try.underlying30;have bau:=Try.underlying124;have EF:=Try.underlying68;have kg:=ia.mk Pf;have Hg:=ia.mk Lf;clear Pf Lf;have Sh:=ia.mk Ng;have fk:=ia.mk Jg;clear Ng Jg;have HB:=ia.mk (Below.refl w.heap.size w);have H:((Rg.f Ua Ja La ([]:List (Jx))).bind fun t102=>(if t102=true then ((Bh.f Pa La 1000).bind fun t103=>(if t103=true then ((Bh.f (Qa.length:Int) 1 300).bind fun t104=>(Zb.j0 k (!t104) Ua Ja La Pa Qa)) else (Zb.j0 k true Ua Ja La Pa Qa))) else (Zb.j0 k true Ua Ja La Pa Qa)))=some r:=h;clear h;have n6:=ia.mk H;clear H;go_enter Try.func57,Try.ntmps57
 go_upto_region 1 with (first|((with_reducible refine Ib (N:=1) rfl ?_);(try (refine Ti (by rfl) ?_;dsimp only));refine Gb ?hg (N:=1) ?hd (cs:=#[.slice zb Ua.length yb,.int .i64 Ja,.int .i64 La,.int .i64 Pa,.slice Yb Qa.length Nb]) (t:=30) ?hr ?_;(case hd=>rfl);(case hg=>rfl);(case hr=>first|(go_simp;done)|(go_simp;rfl));intro Da hg w3 Vb hb;have Kb:=ia.mk (Ra (by repeat (first|(with_reducible first|exact HB.out|apply ta|apply ja|apply ua)|exact HB.out)) hb);have Ub:=ia.mk (Vb);have qc:=ia.mk ((by rw [hg];exact (Sa (by repeat (first|(with_reducible first|exact HB.out|apply ta|apply ja|apply ua)|exact HB.out))):w.heap.size ≤ Da));have Rc:=ia.mk ((by rw [hg];exact (Sa (by repeat (first|(with_reducible first|exact HB.out|apply ta|apply ja|apply ua)|exact HB.out))):w.heap.size ≤ Da));clear HB;have HB:=Kb;have qa:=Ub;have De:=qc;have Wa:=Rc;clear Kb Ub qc Rc hb Vb hg))
 (try simp only [Act.put,List.setIfInBounds_toArray,List.set_cons_zero,List.set_cons_succ])
 go_cut [29] (fun v29 wc=>∃ (kq:Nat) (OI:Bool),v29 = .bool OI∧ia (Zb.j0 kq OI Ua Ja La Pa Qa=some r)∧ia (kq ≤ k)∧ia (wc.heap[Da]? = some (.cells #[(.slice zb Ua.length yb),.int .i64 Ja,.int .i64 La,.int .i64 Pa,(.slice Yb Qa.length Nb)] 30 (0,0)))∧ia (Below w.heap.size w wc))
 case first =>
  have H:=n6.out;clear n6;replace H:=Option.bind_eq_some_iff.mp H;obtain ⟨t102,A40,H⟩:=H;replace H:(if t102=true then ((Bh.f Pa La 1000).bind fun t103=>(if t103=true then ((Bh.f (Qa.length:Int) 1 300).bind fun t104=>(Zb.j0 k (!t104) Ua Ja La Pa Qa)) else (Zb.j0 k true Ua Ja La Pa Qa))) else (Zb.j0 k true Ua Ja La Pa Qa))=some r:=H;have A4:=ia.mk A40;clear A40
  by_cases c5:t102=true
  ·subst c5;have H1:((Bh.f Pa La 1000).bind fun t103=>(if t103=true then ((Bh.f (Qa.length:Int) 1 300).bind fun t104=>(Zb.j0 k (!t104) Ua Ja La Pa Qa)) else (Zb.j0 k true Ua Ja La Pa Qa)))=some r:=by rw [if_pos rfl] at H;exact H
   clear H;have H:=H1;clear H1;replace H:=Option.bind_eq_some_iff.mp H;obtain ⟨t103,XY,H⟩:=H;replace H:(if t103=true then ((Bh.f (Qa.length:Int) 1 300).bind fun t104=>(Zb.j0 k (!t104) Ua Ja La Pa Qa)) else (Zb.j0 k true Ua Ja La Pa Qa))=some r:=H;have A6:=ia.mk XY;clear XY
   by_cases c7:t103=true
   ·subst c7;have H1:((Bh.f (Qa.length:Int) 1 300).bind fun t104=>(Zb.j0 k (!t104) Ua Ja La Pa Qa))=some r:=by rw [if_pos rfl] at H;exact H
    clear H;have H:=H1;clear H1;replace H:=Option.bind_eq_some_iff.mp H;obtain ⟨t104,fM,H⟩:=H;replace H:(Zb.j0 k (!t104) Ua Ja La Pa Qa)=some r:=H;have A8:=ia.mk fM;clear fM;have H':=ia.mk H;clear H;have Ax:w3.cell? ⟨Da,0,none⟩=some (.slice zb Ua.length yb):=(ga qa.out 0).trans rfl;have zx:w3.cell? ⟨Da,1,none⟩=some (.int .i64 Ja):=(ga qa.out 1).trans rfl;have yx:w3.cell? ⟨Da,2,none⟩=some (.int .i64 La):=(ga qa.out 2).trans rfl;have xx:w3.cell? ⟨Da,3,none⟩=some (.int .i64 Pa):=(ga qa.out 3).trans rfl;have ux:w3.cell? ⟨Da,4,none⟩=some (.slice Yb Qa.length Nb):=(ga qa.out 4).trans rfl;have qx:=aa qa.out 0;have ox:=aa qa.out 1;have jx:=aa qa.out 2;have dx:=aa qa.out 3;have cx:=aa qa.out 4;go_wp2_with (first|((with_reducible refine qb (f:=89) rfl ?_);refine Qc (some 13) rfl rfl Try.func89 (by kernel_rfl) rfl #[.agg #[.slice zb Ua.length yb,.int .i64 Ja,.int .i64 La,.slice none 0 0]] rfl (by (try simp only [List.map_toArray,List.map_cons,List.map_nil]);first|done|rfl|(simp only [List.length_drop,List.length_take];rfl)) ?_;(refine (Rg.calls _ _ Ua Ja La _ _ ([]:List (Jx)) true _ ?td ?qd ?Xf ?Wf A4.out).mono ?_);(case td=>repeat (first|exact (Kd.Lb kg.out HB.out)|(with_reducible refine Kd.Gc ?_ _)|(with_reducible refine Kd.Fc ?_ _)|(with_reducible refine Kd.xd ?_)));(case qd=>exact Hg.out);(case Xf=>exact Kd.dM _ _);(case Wf=>exact Nat.le_refl _);rintro e zq ⟨rfl,hb⟩;refine ⟨_,rfl,?_⟩;have Kb:=ia.mk (Ta (g:=Da) (o:=.cells #[.slice zb Ua.length yb,.int .i64 Ja,.int .i64 La,.int .i64 Pa,.slice Yb Qa.length Nb] 30 (0,0)) (by (with_reducible repeat (first|refine za ?_ _|refine Ca ?_|refine ya ?_ _));exact qa.out) hb);have Ub:=ia.mk (Ra (by repeat (first|(with_reducible first|exact HB.out|apply ta|apply ja|apply ua|refine Aa ?_ Wa.out)|exact HB.out)) hb);clear qa HB;have qa:=Kb;have HB:=Ub;clear Kb Ub;(try clear hb);(try clear Li);(try clear hk);(try clear hi);have Uo:zq.cell? ⟨Da,0,none⟩=some (.slice zb Ua.length yb):=(ga qa.out 0).trans rfl;have Ro:zq.cell? ⟨Da,1,none⟩=some (.int .i64 Ja):=(ga qa.out 1).trans rfl;have Qo:zq.cell? ⟨Da,2,none⟩=some (.int .i64 La):=(ga qa.out 2).trans rfl;have Po:zq.cell? ⟨Da,3,none⟩=some (.int .i64 Pa):=(ga qa.out 3).trans rfl;have Oo:zq.cell? ⟨Da,4,none⟩=some (.slice Yb Qa.length Nb):=(ga qa.out 4).trans rfl;have Ho:=aa qa.out 0;have Fo:=aa qa.out 1;have Eo:=aa qa.out 2;have Co:=aa qa.out 3;have Bo:=aa qa.out 4)|(go_at_call 58;(with_reducible refine (Bh.calls Pa La 1000 true _ A6.out).mono ?_);rintro e w' ⟨rfl,⟨nd,rfl⟩⟩)|(go_at_call 58;(with_reducible refine (Bh.calls (Qa.length:Int) 1 300 t104 _ A8.out).mono ?_);rintro e w' ⟨rfl,⟨nd,rfl⟩⟩))
    go_meet
    case rel=>exact ⟨_,(!t104),(by first|rfl|(simp;done)|(simp [*];done)),H',⟨by first|omega|exact Nat.le_refl _⟩,⟨by (with_reducible repeat (first|refine za ?_ _|refine Ca ?_|refine ya ?_ _));exact qa.out⟩,⟨by repeat (first|(with_reducible first|exact HB.out|apply ta|apply ja|apply ua|refine Aa ?_ Wa.out)|exact HB.out)⟩⟩
   ·replace c7:=Bool.eq_false_iff.mpr c7;subst c7;have H1:(Zb.j0 k true Ua Ja La Pa Qa)=some r:=by rw [if_neg (show ¬ (false=true) by decide)] at H;exact H
    clear H;have H:=H1;clear H1;have H':=ia.mk H;clear H;have Gz:w3.cell? ⟨Da,0,none⟩=some (.slice zb Ua.length yb):=(ga qa.out 0).trans rfl;have Fz:w3.cell? ⟨Da,1,none⟩=some (.int .i64 Ja):=(ga qa.out 1).trans rfl;have Ez:w3.cell? ⟨Da,2,none⟩=some (.int .i64 La):=(ga qa.out 2).trans rfl;have Dz:w3.cell? ⟨Da,3,none⟩=some (.int .i64 Pa):=(ga qa.out 3).trans rfl;have Cz:w3.cell? ⟨Da,4,none⟩=some (.slice Yb Qa.length Nb):=(ga qa.out 4).trans rfl;have Xy:=aa qa.out 0;have Wy:=aa qa.out 1;have Vy:=aa qa.out 2;have Uy:=aa qa.out 3;have Ty:=aa qa.out 4;go_wp2_with (first|((with_reducible refine qb (f:=89) rfl ?_);refine Qc (some 13) rfl rfl Try.func89 (by kernel_rfl) rfl #[.agg #[.slice zb Ua.length yb,.int .i64 Ja,.int .i64 La,.slice none 0 0]] rfl (by (try simp only [List.map_toArray,List.map_cons,List.map_nil]);first|done|rfl|(simp only [List.length_drop,List.length_take];rfl)) ?_;(refine (Rg.calls _ _ Ua Ja La _ _ ([]:List (Jx)) true _ ?td ?qd ?Xf ?Wf A4.out).mono ?_);(case td=>repeat (first|exact (Kd.Lb kg.out HB.out)|(with_reducible refine Kd.Gc ?_ _)|(with_reducible refine Kd.Fc ?_ _)|(with_reducible refine Kd.xd ?_)));(case qd=>exact Hg.out);(case Xf=>exact Kd.dM _ _);(case Wf=>exact Nat.le_refl _);rintro e dF ⟨rfl,hb⟩;refine ⟨_,rfl,?_⟩;have Kb:=ia.mk (Ta (g:=Da) (o:=.cells #[.slice zb Ua.length yb,.int .i64 Ja,.int .i64 La,.int .i64 Pa,.slice Yb Qa.length Nb] 30 (0,0)) (by (with_reducible repeat (first|refine za ?_ _|refine Ca ?_|refine ya ?_ _));exact qa.out) hb);have Ub:=ia.mk (Ra (by repeat (first|(with_reducible first|exact HB.out|apply ta|apply ja|apply ua|refine Aa ?_ Wa.out)|exact HB.out)) hb);clear qa HB;have qa:=Kb;have HB:=Ub;clear Kb Ub;(try clear hb);(try clear Li);(try clear hk);(try clear hi);have Am:dF.cell? ⟨Da,0,none⟩=some (.slice zb Ua.length yb):=(ga qa.out 0).trans rfl;have zm:dF.cell? ⟨Da,1,none⟩=some (.int .i64 Ja):=(ga qa.out 1).trans rfl;have ym:dF.cell? ⟨Da,2,none⟩=some (.int .i64 La):=(ga qa.out 2).trans rfl;have xm:dF.cell? ⟨Da,3,none⟩=some (.int .i64 Pa):=(ga qa.out 3).trans rfl;have wm:dF.cell? ⟨Da,4,none⟩=some (.slice Yb Qa.length Nb):=(ga qa.out 4).trans rfl;have mm:=aa qa.out 0;have jm:=aa qa.out 1;have gm:=aa qa.out 2;have dm:=aa qa.out 3;have cm:=aa qa.out 4)|(go_at_call 58;(with_reducible refine (Bh.calls Pa La 1000 false _ A6.out).mono ?_);rintro e w' ⟨rfl,⟨nd,rfl⟩⟩))
    go_meet
    case rel=>exact ⟨_,(true),(by first|rfl|(simp;done)|(simp [*];done)),H',⟨by first|omega|exact Nat.le_refl _⟩,⟨by (with_reducible repeat (first|refine za ?_ _|refine Ca ?_|refine ya ?_ _));exact qa.out⟩,⟨by repeat (first|(with_reducible first|exact HB.out|apply ta|apply ja|apply ua|refine Aa ?_ Wa.out)|exact HB.out)⟩⟩
  ·replace c5:=Bool.eq_false_iff.mpr c5;subst c5;have H1:(Zb.j0 k true Ua Ja La Pa Qa)=some r:=by rw [if_neg (show ¬ (false=true) by decide)] at H;exact H
   clear H;have H:=H1;clear H1;have H':=ia.mk H;clear H;have aE:w3.cell? ⟨Da,0,none⟩=some (.slice zb Ua.length yb):=(ga qa.out 0).trans rfl;have YD:w3.cell? ⟨Da,1,none⟩=some (.int .i64 Ja):=(ga qa.out 1).trans rfl;have XD:w3.cell? ⟨Da,2,none⟩=some (.int .i64 La):=(ga qa.out 2).trans rfl;have WD:w3.cell? ⟨Da,3,none⟩=some (.int .i64 Pa):=(ga qa.out 3).trans rfl;have VD:w3.cell? ⟨Da,4,none⟩=some (.slice Yb Qa.length Nb):=(ga qa.out 4).trans rfl;have bD:=aa qa.out 0;have aD:=aa qa.out 1;have ZC:=aa qa.out 2;have YC:=aa qa.out 3;have XC:=aa qa.out 4;go_wp2_with (first|((with_reducible refine qb (f:=89) rfl ?_);refine Qc (some 13) rfl rfl Try.func89 (by kernel_rfl) rfl #[.agg #[.slice zb Ua.length yb,.int .i64 Ja,.int .i64 La,.slice none 0 0]] rfl (by (try simp only [List.map_toArray,List.map_cons,List.map_nil]);first|done|rfl|(simp only [List.length_drop,List.length_take];rfl)) ?_;(refine (Rg.calls _ _ Ua Ja La _ _ ([]:List (Jx)) false _ ?td ?qd ?Xf ?Wf A4.out).mono ?_);(case td=>repeat (first|exact (Kd.Lb kg.out HB.out)|(with_reducible refine Kd.Gc ?_ _)|(with_reducible refine Kd.Fc ?_ _)|(with_reducible refine Kd.xd ?_)));(case qd=>exact Hg.out);(case Xf=>exact Kd.dM _ _);(case Wf=>exact Nat.le_refl _);rintro e tB ⟨rfl,hb⟩;refine ⟨_,rfl,?_⟩;have Kb:=ia.mk (Ta (g:=Da) (o:=.cells #[.slice zb Ua.length yb,.int .i64 Ja,.int .i64 La,.int .i64 Pa,.slice Yb Qa.length Nb] 30 (0,0)) (by (with_reducible repeat (first|refine za ?_ _|refine Ca ?_|refine ya ?_ _));exact qa.out) hb);have Ub:=ia.mk (Ra (by repeat (first|(with_reducible first|exact HB.out|apply ta|apply ja|apply ua|refine Aa ?_ Wa.out)|exact HB.out)) hb);clear qa HB;have qa:=Kb;have HB:=Ub;clear Kb Ub;(try clear hb);(try clear Li);(try clear hk);(try clear hi)))
   go_meet
   case rel=>exact ⟨_,(true),(by first|rfl|(simp;done)|(simp [*];done)),H',⟨by first|omega|exact Nat.le_refl _⟩,⟨by (with_reducible repeat (first|refine za ?_ _|refine Ca ?_|refine ya ?_ _));exact qa.out⟩,⟨by repeat (first|(with_reducible first|exact HB.out|apply ta|apply ja|apply ua|refine Aa ?_ Wa.out)|exact HB.out)⟩⟩
 case rest =>
  clear n6
  try clear p2
  try clear c5
  try clear c7
  try clear c8
  try clear Uo
  try clear Ro
  try clear Qo
  try clear Po
  try clear Oo
  try clear Gz
  try clear Fz
  try clear Ez
  try clear Dz
  try clear Cz
  try clear Am
  try clear zm
  try clear ym
  try clear xm
  try clear wm
  try clear aE
  try clear YD
  try clear XD
  try clear WD
  try clear VD
  try clear Ax
  try clear zx
  try clear yx
  try clear xx
  try clear ux
  try clear Ho
  try clear Fo
  try clear Eo
  try clear Co
  try clear Bo
  try clear Xy
  try clear Wy
  try clear Vy
  try clear Uy
  try clear Ty
  try clear mm
  try clear jm
  try clear gm
  try clear dm
  try clear cm
  try clear bD
  try clear aD
  try clear ZC
  try clear YC
  try clear XC
  try clear qx
  try clear ox
  try clear jx
  try clear dx
  try clear cx
  obtain ⟨kq,OI,rfl,HA,HJ1,qa,HB⟩:=hcut;cases kq with
  | zero=>exact absurd HA.out (by simp [Zb.j0])
  | succ kj1 =>
   have H:=HA.out;clear HA;simp only [Zb.j0] at H
   by_cases TB:OI=true
   ·subst TB;have H1:(some false)=some r:=by rw [if_pos rfl] at H;exact H
    clear H;have H:=H1;clear H1;obtain rfl:=Option.some.inj H;go_wp2;go_ret;exact ⟨by first|rfl|(simp [Na,Ma] <;> rfl)|(simp [*,Na,Ma] <;> rfl),by repeat (first|(with_reducible first|exact HB.out|apply ta|apply ja|apply ua|refine Aa ?_ Wa.out)|exact HB.out)⟩
   ·replace TB:=Bool.eq_false_iff.mpr TB;subst TB;have H1:(Zb.l0 kj1 0 Qa (Qa.length:Int) 0 Ua Ja La Pa Qa)=some r:=by rw [if_neg (show ¬ (false=true) by decide)] at H;exact H
    clear H;have H:=H1;clear H1;have H':=ia.mk H;clear H;have Cs:wc.cell? ⟨Da,0,none⟩=some (.slice zb Ua.length yb):=(ga qa.out 0).trans rfl;have Bs:wc.cell? ⟨Da,1,none⟩=some (.int .i64 Ja):=(ga qa.out 1).trans rfl;have js:wc.cell? ⟨Da,2,none⟩=some (.int .i64 La):=(ga qa.out 2).trans rfl;have Zr:wc.cell? ⟨Da,3,none⟩=some (.int .i64 Pa):=(ga qa.out 3).trans rfl;have Yr:wc.cell? ⟨Da,4,none⟩=some (.slice Yb Qa.length Nb):=(ga qa.out 4).trans rfl;have Gr:=aa qa.out 0;have Er:=aa qa.out 1;have Dr:=aa qa.out 2;have Cr:=aa qa.out 3;have Br:=aa qa.out 4;go_wp2
    go_loopg [3,33] kj1 (fun kq v3 v33 w'=>∃ (jM:Int) (ke:Int),v3 = .int .i64 jM∧v33 = .int .i64 ke∧ia (Zb.l0 kq jM Qa (Qa.length:Int) ke Ua Ja La Pa Qa=some r)∧ia (kq ≤ kj1)∧ia (w'.heap[Da]? = some (.cells #[(.slice zb Ua.length yb),.int .i64 Ja,.int .i64 La,.int .i64 Pa,(.slice Yb Qa.length Nb)] 30 (0,0)))∧ia (Below w.heap.size w w'))
    case atStart=>exact ⟨(0),(0),(by first|rfl|(simp;done)|(simp [*];done)),(by first|rfl|(simp;done)|(simp [*];done)),H',⟨Nat.le_refl _⟩,⟨by (with_reducible repeat (first|refine za ?_ _|refine Ca ?_|refine ya ?_ _));exact qa.out⟩,⟨by repeat (first|(with_reducible first|exact HB.out|apply ta|apply ja|apply ua|refine Aa ?_ Wa.out)|exact HB.out)⟩⟩
    case round =>
     clear H'
     try clear c1
     try clear p2
     try clear c5
     try clear c7
     try clear c8
     try clear TB
     try clear Uo
     try clear Ro
     try clear Qo
     try clear Po
     try clear Oo
     try clear Gz
     try clear Fz
     try clear Ez
     try clear Dz
     try clear Cz
     try clear Am
     try clear zm
     try clear ym
     try clear xm
     try clear wm
     try clear aE
     try clear YD
     try clear XD
     try clear WD
     try clear VD
     try clear Cs
     try clear Bs
     try clear js
     try clear Zr
     try clear Yr
     try clear Ax
     try clear zx
     try clear yx
     try clear xx
     try clear ux
     try clear Ho
     try clear Fo
     try clear Eo
     try clear Co
     try clear Bo
     try clear Xy
     try clear Wy
     try clear Vy
     try clear Uy
     try clear Ty
     try clear mm
     try clear jm
     try clear gm
     try clear dm
     try clear cm
     try clear bD
     try clear aD
     try clear ZC
     try clear YC
     try clear XC
     try clear Gr
     try clear Er
     try clear Dr
     try clear Cr
     try clear Br
     try clear qx
     try clear ox
     try clear jx
     try clear dx
     try clear cx
     try clear p2
     (try clear HA);(try clear k5);(try clear qa);(try clear HB);obtain ⟨jM,ke,rfl,rfl,HA,k5,qa,HB⟩:=hrel;cases gk with
     | zero=>exact absurd HA.out (by simp [Zb.l0])
     | succ k2 =>
      have H:=HA.out;clear HA;simp only [Zb.l0] at H
      by_cases Bt:ke < (Qa.length:Int)
      ·rw [if_pos Bt] at H;have KL:decide (ke < (Qa.length:Int))=true:=decide_eq_true Bt;clear Bt
       by_cases Hx:0 ≤ ke
       ·rw [if_pos Hx] at H;have pQ:decide (0 ≤ ke)=true:=decide_eq_true Hx;clear Hx
        by_cases yt:ke < (Qa.length:Int)
        ·rw [if_pos yt] at H;have SB:decide (ke < (Qa.length:Int))=true:=decide_eq_true yt;clear yt;replace H:=Option.bind_eq_some_iff.mp H;obtain ⟨t107,Zag,H⟩:=H;replace H:(if t107=true then (Zb.l0 k2 (wrap64 (jM + (((Oa Qa ke).f0).length:Int))) Qa (Qa.length:Int) (wrap64 (ke + 1)) Ua Ja La Pa Qa) else (some false))=some r:=H;have A22:=ia.mk Zag;clear Zag
         by_cases gI:t107=true
         ·subst gI;have H1:(Zb.l0 k2 (wrap64 (jM + (((Oa Qa ke).f0).length:Int))) Qa (Qa.length:Int) (wrap64 (ke + 1)) Ua Ja La Pa Qa)=some r:=by rw [if_pos rfl] at H;exact H
          clear H;have H:=H1;clear H1;have H':=ia.mk H;clear H;have Bj:0 ≤ (ke:Int):=of_decide_eq_true (by first|(with_reducible assumption)|assumption);have Aj:ke < (Qa.length:Int):=of_decide_eq_true (by first|(with_reducible assumption)|assumption);obtain ⟨Hi,sk,qk,Lq,Yf,Eg,Dg,Cg,Bg,kj,qj⟩:=wg Sh.out ke Bj Aj;cases Lq;replace Yf:=Ea HB.out Yf;replace Eg:=Ea HB.out Eg;replace Dg:=Ea HB.out Dg;replace Cg:=Ea HB.out Cg;replace Bg:=Ea HB.out Bg;have Ks:=ia.mk qj;have Ls:=ia.mk kj;clear qj kj;replace Bj:=eq_true Bj;replace Aj:=eq_true Aj;go_wp2_with (first|((with_reducible refine Ib (N:=5) rfl ?_);(try (refine Ti (by rfl) ?_;dsimp only));refine Gb ?hg (N:=5) ?hd (cs:=#[.slice none 0 0,.int .i64 0,.int .i64 0,.int .i64 0,.int .i64 0]) (t:=68) ?hr ?_;(case hd=>rfl);(case hg=>rfl);(case hr=>first|(go_simp;done)|(go_simp;rfl));intro uk hg uS Vb hb;have Kb:=ia.mk (Ta (g:=Da) (o:=.cells #[.slice zb Ua.length yb,.int .i64 Ja,.int .i64 La,.int .i64 Pa,.slice (some Hi) Qa.length Nb] 30 (0,0)) (by (with_reducible repeat (first|refine za ?_ _|refine Ca ?_|refine ya ?_ _));exact qa.out) hb);have Ub:=ia.mk (Ra (by repeat (first|(with_reducible first|exact HB.out|apply ta|apply ja|apply ua|refine Aa ?_ Wa.out)|exact HB.out)) hb);have qc:=ia.mk (Vb);have Rc:=ia.mk ((by rw [hg];exact (Sa (by repeat (first|(with_reducible first|exact HB.out|apply ta|apply ja|apply ua|refine Aa ?_ Wa.out)|exact HB.out))):w.heap.size ≤ uk));have Ce:=ia.mk ((by rw [hg];exact (Sa (by repeat (first|(with_reducible first|exact HB.out|apply ta|apply ja|apply ua|refine Aa ?_ Wa.out)|exact HB.out))):w.heap.size ≤ uk));have Qe:=ia.mk ((by rw [hg];exact Nat.ne_of_lt (jc (g:=Da) (o:=.cells #[.slice zb Ua.length yb,.int .i64 Ja,.int .i64 La,.int .i64 Pa,.slice (some Hi) Qa.length Nb] 30 (0,0)) (by (with_reducible repeat (first|refine za ?_ _|refine Ca ?_|refine ya ?_ _));exact qa.out)):Da ≠ uk));have qg:=ia.mk ((by rw [hg];exact Nat.ne_of_gt (jc (g:=Da) (o:=.cells #[.slice zb Ua.length yb,.int .i64 Ja,.int .i64 La,.int .i64 Pa,.slice (some Hi) Qa.length Nb] 30 (0,0)) (by (with_reducible repeat (first|refine za ?_ _|refine Ca ?_|refine ya ?_ _));exact qa.out)):uk ≠ Da));clear qa HB;have qa:=Kb;have HB:=Ub;have Ji:=qc;have Nag:=Rc;have Rq:=Ce;have Kh:=Qe;have Lx:=qg;clear Kb Ub qc Rc Ce Qe qg hb Vb hg;have PO:=Lx.out;have MO:=Kh.out;have gw:uS.cell? ⟨uk,0,none⟩=some (.slice none 0 0):=(ga Ji.out 0).trans rfl;have ew:uS.cell? ⟨uk,1,none⟩=some (.int .i64 0):=(ga Ji.out 1).trans rfl;have dw:uS.cell? ⟨uk,2,none⟩=some (.int .i64 0):=(ga Ji.out 2).trans rfl;have cw:uS.cell? ⟨uk,3,none⟩=some (.int .i64 0):=(ga Ji.out 3).trans rfl;have bw:uS.cell? ⟨uk,4,none⟩=some (.int .i64 0):=(ga Ji.out 4).trans rfl;have Fv:=aa Ji.out 0;have Dv:=aa Ji.out 1;have Cv:=aa Ji.out 2;have Bv:=aa Ji.out 3;have wv:=aa Ji.out 4;have Sr:uS.cell? ⟨Da,0,none⟩=some (.slice zb Ua.length yb):=(ga qa.out 0).trans rfl;have Qr:uS.cell? ⟨Da,1,none⟩=some (.int .i64 Ja):=(ga qa.out 1).trans rfl;have Pr:uS.cell? ⟨Da,2,none⟩=some (.int .i64 La):=(ga qa.out 2).trans rfl;have Nr:uS.cell? ⟨Da,3,none⟩=some (.int .i64 Pa):=(ga qa.out 3).trans rfl;have Mr:uS.cell? ⟨Da,4,none⟩=some (.slice (some Hi) Qa.length Nb):=(ga qa.out 4).trans rfl;have nr:=aa qa.out 0;have kr:=aa qa.out 1;have jr:=aa qa.out 2;have ir:=aa qa.out 3;have gr:=aa qa.out 4)|((with_reducible refine qb (f:=90) rfl ?_);refine Qc (some 44) rfl rfl Try.func90 (by kernel_rfl) rfl #[.agg #[.slice zb Ua.length yb,.int .i64 Ja,.int .i64 La,.int .i64 Pa,.slice (some Hi) Qa.length Nb],.agg #[.slice sk ((Oa Qa ke).f0).length qk,.int .i64 ((Oa Qa ke).f1),.int .i64 ((Oa Qa ke).f2),.int .i64 ((Oa Qa ke).f3),.int .i64 ((Oa Qa ke).f4)]] rfl (by (try simp only [List.map_toArray,List.map_cons,List.map_nil]);first|done|rfl|(simp only [List.length_drop,List.length_take];rfl)) ?_;(with_reducible refine (Si.calls _ _ Ua Ja La Pa _ _ Qa _ _ ((Oa Qa ke).f0) ((Oa Qa ke).f1) ((Oa Qa ke).f2) ((Oa Qa ke).f3) ((Oa Qa ke).f4) true _ ?td ?qd ?Xf ?Wf ?Uz ?Tz A22.out).mono ?_);(case td=>exact Kd.Lb kg.out (by repeat (first|(with_reducible first|exact HB.out|apply ta|apply ja|apply ua|refine Aa ?_ Wa.out|refine Aa ?_ Rq.out)|exact HB.out)));(case qd=>exact Hg.out);(case Xf=>exact Kd.Lb Sh.out (by repeat (first|(with_reducible first|exact HB.out|apply ta|apply ja|apply ua|refine Aa ?_ Wa.out|refine Aa ?_ Rq.out)|exact HB.out)));(case Wf=>exact fk.out);(case Uz=>exact Kd.Lb Ks.out (by repeat (first|(with_reducible first|exact HB.out|apply ta|apply ja|apply ua|refine Aa ?_ Wa.out|refine Aa ?_ Rq.out)|exact HB.out)));(case Tz=>exact Ls.out);rintro e Vw ⟨rfl,hb⟩;refine ⟨_,rfl,?_⟩;have Kb:=ia.mk (Ta (g:=Da) (o:=.cells #[.slice zb Ua.length yb,.int .i64 Ja,.int .i64 La,.int .i64 Pa,.slice (some Hi) Qa.length Nb] 30 (0,0)) (by (with_reducible repeat (first|refine za ?_ _|refine Ca ?_|refine ya ?_ _));refine Bb ?_ Kh.out _;(with_reducible repeat (first|refine za ?_ _|refine Ca ?_|refine ya ?_ _));refine Bb ?_ Kh.out _;(with_reducible repeat (first|refine za ?_ _|refine Ca ?_|refine ya ?_ _));refine Bb ?_ Kh.out _;(with_reducible repeat (first|refine za ?_ _|refine Ca ?_|refine ya ?_ _));refine Bb ?_ Kh.out _;(with_reducible repeat (first|refine za ?_ _|refine Ca ?_|refine ya ?_ _));refine Bb ?_ Kh.out _;(with_reducible repeat (first|refine za ?_ _|refine Ca ?_|refine ya ?_ _));exact qa.out) hb);have Ub:=ia.mk (Ta (g:=uk) (o:=.cells #[.slice sk ((Oa Qa ke).f0).length qk,.int .i64 ((Oa Qa ke).f1),.int .i64 ((Oa Qa ke).f2),.int .i64 ((Oa Qa ke).f3),.int .i64 ((Oa Qa ke).f4)] 68 (0,0)) (by (with_reducible repeat (first|refine za ?_ _|refine Ca ?_|refine ya ?_ _));refine jb (cs:=#[.slice sk ((Oa Qa ke).f0).length qk,.int .i64 ((Oa Qa ke).f1),.int .i64 ((Oa Qa ke).f2),.int .i64 ((Oa Qa ke).f3),.int .i64 0]) ?_ 4 _ rfl;(with_reducible repeat (first|refine za ?_ _|refine Ca ?_|refine ya ?_ _));refine jb (cs:=#[.slice sk ((Oa Qa ke).f0).length qk,.int .i64 ((Oa Qa ke).f1),.int .i64 ((Oa Qa ke).f2),.int .i64 0,.int .i64 0]) ?_ 3 _ rfl;(with_reducible repeat (first|refine za ?_ _|refine Ca ?_|refine ya ?_ _));refine jb (cs:=#[.slice sk ((Oa Qa ke).f0).length qk,.int .i64 ((Oa Qa ke).f1),.int .i64 0,.int .i64 0,.int .i64 0]) ?_ 2 _ rfl;(with_reducible repeat (first|refine za ?_ _|refine Ca ?_|refine ya ?_ _));refine jb (cs:=#[.slice sk ((Oa Qa ke).f0).length qk,.int .i64 0,.int .i64 0,.int .i64 0,.int .i64 0]) ?_ 1 _ rfl;(with_reducible repeat (first|refine za ?_ _|refine Ca ?_|refine ya ?_ _));refine jb (cs:=#[.slice none 0 0,.int .i64 0,.int .i64 0,.int .i64 0,.int .i64 0]) ?_ 0 _ rfl;(with_reducible repeat (first|refine za ?_ _|refine Ca ?_|refine ya ?_ _));exact Ji.out) hb);have qc:=ia.mk (Ra (by repeat (first|(with_reducible first|exact HB.out|apply ta|apply ja|apply ua|refine Aa ?_ Wa.out|refine Aa ?_ Rq.out)|exact HB.out)) hb);clear qa Ji HB;have qa:=Kb;have Ji:=Ub;have HB:=qc;clear Kb Ub qc;(try clear hb);(try clear Li);(try clear hk);(try clear hi)))
          go_roundg k2
          case measure=>have:=HJ1.out;have:=k5.out;omega
          case rel=>exact ⟨(wrap64 (jM + (((Oa Qa ke).f0).length:Int))),(wrap64 (ke + 1)),(by first|rfl|(simp;done)|(simp [*];done)),(by first|rfl|(simp;done)|(simp [*];done)),H',⟨by have:=HJ1.out;have:=k5.out;omega⟩,⟨by (with_reducible repeat (first|refine za ?_ _|refine Ca ?_|refine ya ?_ _));exact qa.out⟩,⟨by repeat (first|(with_reducible first|exact HB.out|apply ta|apply ja|apply ua|refine Aa ?_ Wa.out|refine Aa ?_ Rq.out)|exact HB.out)⟩⟩
         ·replace gI:=Bool.eq_false_iff.mpr gI;subst gI;have H1:(some false)=some r:=by rw [if_neg (show ¬ (false=true) by decide)] at H;exact H
          clear H;have H:=H1;clear H1;obtain rfl:=Option.some.inj H;have Bj:0 ≤ (ke:Int):=of_decide_eq_true (by first|(with_reducible assumption)|assumption);have Aj:ke < (Qa.length:Int):=of_decide_eq_true (by first|(with_reducible assumption)|assumption);obtain ⟨Hi,sk,qk,Lq,Yf,Eg,Dg,Cg,Bg,kj,qj⟩:=wg Sh.out ke Bj Aj;cases Lq;replace Yf:=Ea HB.out Yf;replace Eg:=Ea HB.out Eg;replace Dg:=Ea HB.out Dg;replace Cg:=Ea HB.out Cg;replace Bg:=Ea HB.out Bg;have Ks:=ia.mk qj;have Ls:=ia.mk kj;clear qj kj;replace Bj:=eq_true Bj;replace Aj:=eq_true Aj;go_wp2_with (first|((with_reducible refine Ib (N:=5) rfl ?_);(try (refine Ti (by rfl) ?_;dsimp only));refine Gb ?hg (N:=5) ?hd (cs:=#[.slice none 0 0,.int .i64 0,.int .i64 0,.int .i64 0,.int .i64 0]) (t:=68) ?hr ?_;(case hd=>rfl);(case hg=>rfl);(case hr=>first|(go_simp;done)|(go_simp;rfl));intro uk hg tS Vb hb;have Kb:=ia.mk (Ta (g:=Da) (o:=.cells #[.slice zb Ua.length yb,.int .i64 Ja,.int .i64 La,.int .i64 Pa,.slice (some Hi) Qa.length Nb] 30 (0,0)) (by (with_reducible repeat (first|refine za ?_ _|refine Ca ?_|refine ya ?_ _));exact qa.out) hb);have Ub:=ia.mk (Ra (by repeat (first|(with_reducible first|exact HB.out|apply ta|apply ja|apply ua|refine Aa ?_ Wa.out)|exact HB.out)) hb);have qc:=ia.mk (Vb);have Rc:=ia.mk ((by rw [hg];exact (Sa (by repeat (first|(with_reducible first|exact HB.out|apply ta|apply ja|apply ua|refine Aa ?_ Wa.out)|exact HB.out))):w.heap.size ≤ uk));have Ce:=ia.mk ((by rw [hg];exact (Sa (by repeat (first|(with_reducible first|exact HB.out|apply ta|apply ja|apply ua|refine Aa ?_ Wa.out)|exact HB.out))):w.heap.size ≤ uk));have Qe:=ia.mk ((by rw [hg];exact Nat.ne_of_lt (jc (g:=Da) (o:=.cells #[.slice zb Ua.length yb,.int .i64 Ja,.int .i64 La,.int .i64 Pa,.slice (some Hi) Qa.length Nb] 30 (0,0)) (by (with_reducible repeat (first|refine za ?_ _|refine Ca ?_|refine ya ?_ _));exact qa.out)):Da ≠ uk));have qg:=ia.mk ((by rw [hg];exact Nat.ne_of_gt (jc (g:=Da) (o:=.cells #[.slice zb Ua.length yb,.int .i64 Ja,.int .i64 La,.int .i64 Pa,.slice (some Hi) Qa.length Nb] 30 (0,0)) (by (with_reducible repeat (first|refine za ?_ _|refine Ca ?_|refine ya ?_ _));exact qa.out)):uk ≠ Da));clear qa HB;have qa:=Kb;have HB:=Ub;have Ji:=qc;have Nag:=Rc;have Rq:=Ce;have Kh:=Qe;have Lx:=qg;clear Kb Ub qc Rc Ce Qe qg hb Vb hg;have n8:=Lx.out;have P7:=Kh.out;have PD:tS.cell? ⟨uk,0,none⟩=some (.slice none 0 0):=(ga Ji.out 0).trans rfl;have OD:tS.cell? ⟨uk,1,none⟩=some (.int .i64 0):=(ga Ji.out 1).trans rfl;have ND:tS.cell? ⟨uk,2,none⟩=some (.int .i64 0):=(ga Ji.out 2).trans rfl;have MD:tS.cell? ⟨uk,3,none⟩=some (.int .i64 0):=(ga Ji.out 3).trans rfl;have LD:tS.cell? ⟨uk,4,none⟩=some (.int .i64 0):=(ga Ji.out 4).trans rfl;have RC:=aa Ji.out 0;have QC:=aa Ji.out 1;have PC:=aa Ji.out 2;have OC:=aa Ji.out 3;have NC:=aa Ji.out 4;have Bz:tS.cell? ⟨Da,0,none⟩=some (.slice zb Ua.length yb):=(ga qa.out 0).trans rfl;have Az:tS.cell? ⟨Da,1,none⟩=some (.int .i64 Ja):=(ga qa.out 1).trans rfl;have zz:tS.cell? ⟨Da,2,none⟩=some (.int .i64 La):=(ga qa.out 2).trans rfl;have yz:tS.cell? ⟨Da,3,none⟩=some (.int .i64 Pa):=(ga qa.out 3).trans rfl;have xz:tS.cell? ⟨Da,4,none⟩=some (.slice (some Hi) Qa.length Nb):=(ga qa.out 4).trans rfl;have Sy:=aa qa.out 0;have Ry:=aa qa.out 1;have Qy:=aa qa.out 2;have Py:=aa qa.out 3;have Oy:=aa qa.out 4)|((with_reducible refine qb (f:=90) rfl ?_);refine Qc (some 44) rfl rfl Try.func90 (by kernel_rfl) rfl #[.agg #[.slice zb Ua.length yb,.int .i64 Ja,.int .i64 La,.int .i64 Pa,.slice (some Hi) Qa.length Nb],.agg #[.slice sk ((Oa Qa ke).f0).length qk,.int .i64 ((Oa Qa ke).f1),.int .i64 ((Oa Qa ke).f2),.int .i64 ((Oa Qa ke).f3),.int .i64 ((Oa Qa ke).f4)]] rfl (by (try simp only [List.map_toArray,List.map_cons,List.map_nil]);first|done|rfl|(simp only [List.length_drop,List.length_take];rfl)) ?_;(with_reducible refine (Si.calls _ _ Ua Ja La Pa _ _ Qa _ _ ((Oa Qa ke).f0) ((Oa Qa ke).f1) ((Oa Qa ke).f2) ((Oa Qa ke).f3) ((Oa Qa ke).f4) false _ ?td ?qd ?Xf ?Wf ?Uz ?Tz A22.out).mono ?_);(case td=>exact Kd.Lb kg.out (by repeat (first|(with_reducible first|exact HB.out|apply ta|apply ja|apply ua|refine Aa ?_ Wa.out|refine Aa ?_ Rq.out)|exact HB.out)));(case qd=>exact Hg.out);(case Xf=>exact Kd.Lb Sh.out (by repeat (first|(with_reducible first|exact HB.out|apply ta|apply ja|apply ua|refine Aa ?_ Wa.out|refine Aa ?_ Rq.out)|exact HB.out)));(case Wf=>exact fk.out);(case Uz=>exact Kd.Lb Ks.out (by repeat (first|(with_reducible first|exact HB.out|apply ta|apply ja|apply ua|refine Aa ?_ Wa.out|refine Aa ?_ Rq.out)|exact HB.out)));(case Tz=>exact Ls.out);rintro e YE ⟨rfl,hb⟩;refine ⟨_,rfl,?_⟩;have Kb:=ia.mk (Ta (g:=Da) (o:=.cells #[.slice zb Ua.length yb,.int .i64 Ja,.int .i64 La,.int .i64 Pa,.slice (some Hi) Qa.length Nb] 30 (0,0)) (by (with_reducible repeat (first|refine za ?_ _|refine Ca ?_|refine ya ?_ _));refine Bb ?_ Kh.out _;(with_reducible repeat (first|refine za ?_ _|refine Ca ?_|refine ya ?_ _));refine Bb ?_ Kh.out _;(with_reducible repeat (first|refine za ?_ _|refine Ca ?_|refine ya ?_ _));refine Bb ?_ Kh.out _;(with_reducible repeat (first|refine za ?_ _|refine Ca ?_|refine ya ?_ _));refine Bb ?_ Kh.out _;(with_reducible repeat (first|refine za ?_ _|refine Ca ?_|refine ya ?_ _));refine Bb ?_ Kh.out _;(with_reducible repeat (first|refine za ?_ _|refine Ca ?_|refine ya ?_ _));exact qa.out) hb);have Ub:=ia.mk (Ta (g:=uk) (o:=.cells #[.slice sk ((Oa Qa ke).f0).length qk,.int .i64 ((Oa Qa ke).f1),.int .i64 ((Oa Qa ke).f2),.int .i64 ((Oa Qa ke).f3),.int .i64 ((Oa Qa ke).f4)] 68 (0,0)) (by (with_reducible repeat (first|refine za ?_ _|refine Ca ?_|refine ya ?_ _));refine jb (cs:=#[.slice sk ((Oa Qa ke).f0).length qk,.int .i64 ((Oa Qa ke).f1),.int .i64 ((Oa Qa ke).f2),.int .i64 ((Oa Qa ke).f3),.int .i64 0]) ?_ 4 _ rfl;(with_reducible repeat (first|refine za ?_ _|refine Ca ?_|refine ya ?_ _));refine jb (cs:=#[.slice sk ((Oa Qa ke).f0).length qk,.int .i64 ((Oa Qa ke).f1),.int .i64 ((Oa Qa ke).f2),.int .i64 0,.int .i64 0]) ?_ 3 _ rfl;(with_reducible repeat (first|refine za ?_ _|refine Ca ?_|refine ya ?_ _));refine jb (cs:=#[.slice sk ((Oa Qa ke).f0).length qk,.int .i64 ((Oa Qa ke).f1),.int .i64 0,.int .i64 0,.int .i64 0]) ?_ 2 _ rfl;(with_reducible repeat (first|refine za ?_ _|refine Ca ?_|refine ya ?_ _));refine jb (cs:=#[.slice sk ((Oa Qa ke).f0).length qk,.int .i64 0,.int .i64 0,.int .i64 0,.int .i64 0]) ?_ 1 _ rfl;(with_reducible repeat (first|refine za ?_ _|refine Ca ?_|refine ya ?_ _));refine jb (cs:=#[.slice none 0 0,.int .i64 0,.int .i64 0,.int .i64 0,.int .i64 0]) ?_ 0 _ rfl;(with_reducible repeat (first|refine za ?_ _|refine Ca ?_|refine ya ?_ _));exact Ji.out) hb);have qc:=ia.mk (Ra (by repeat (first|(with_reducible first|exact HB.out|apply ta|apply ja|apply ua|refine Aa ?_ Wa.out|refine Aa ?_ Rq.out)|exact HB.out)) hb);clear qa Ji HB;have qa:=Kb;have Ji:=Ub;have HB:=qc;clear Kb Ub qc;(try clear hb);(try clear Li);(try clear hk);(try clear hi)));go_ret;exact ⟨by first|rfl|(simp [Na,Ma] <;> rfl)|(simp [*,Na,Ma] <;> rfl),by repeat (first|(with_reducible first|exact HB.out|apply ta|apply ja|apply ua|refine Aa ?_ Wa.out|refine Aa ?_ Rq.out)|exact HB.out)⟩
        ·rw [if_neg yt] at H;exact absurd H (by simp)
       ·rw [if_neg Hx] at H;exact absurd H (by simp)
      ·rw [if_neg Bt] at H;have KL:decide (ke < (Qa.length:Int))=false:=decide_eq_false Bt;clear Bt;obtain rfl:=Option.some.inj H;go_wp2;go_ret;exact ⟨by first|rfl|(simp [Na,Ma] <;> rfl)|(simp [*,Na,Ma] <;> rfl),by repeat (first|(with_reducible first|exact HB.out|apply ta|apply ja|apply ua|refine Aa ?_ Wa.out)|exact HB.out)⟩
end Go.Proofs.Ytmifdccaajngcaa.P
end
