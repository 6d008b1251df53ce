import Derived.Test.YtkigbdceceeenaaProg
import Derived.Below
import Derived.Deep.Draws
import Derived.Deep.AppendLies
import Derived.Maps.AppendAt
import Derived.OwnWalk
import Derived.Laws.BytesArg
import Derived.Laws.MakeOwn
import Derived.Laws.OwnMore
import Derived.Deep.OwnRows
import Derived.Tactics
import Derived.Lib.ConvBytes
import Derived.Laws.Slices
import Derived.WalkKit
import Derived.KernelRfl
import Derived.RowKit3
import Derived.Deep.LoopGhost
import Derived.Deep.QuietTactic
import Derived.BigQuiet
import Derived.WideLaws
import Derived.Deep.DeepCutAuto
import Derived.Deep.CutBlock
import Derived.Deep.RegionHeld3
import Derived.Laws.Rows
import Derived.Lib.AppendStr
import Derived.ArgAppend
import Derived.Laws.IdiomCopy
import Derived.OrdersHeld
import Derived.Laws.BitsLemmas
import Derived.RowKit
import Derived.Test.YtkigbdceceeenaaQColorsOkW1
import Derived.Test.YtkigbdceceeenaaQColorsOkW2
import Derived.Deep.Slices
import Derived.ChangeArms
import Derived.OpenShut
import Derived.WideShapes
import Derived.Shelf.Abstract
import Derived.Outline
import Derived.RegionTactic
set_option maxHeartbeats 8000000
set_option maxRecDepth 100000
section
namespace Go.Proofs.Ytkigbdceceeenaa.P
open Go.RowKit Go.Proofs.Pa.Xb Go.Proofs.Pa.Pd Go.Proofs.Pa.Oe
set_option linter.unusedVariables false
set_option linter.unusedSimpArgs false
attribute [local go_sem] Bi Xi Jj Ik Uh Th Yi Wi
def vab:Option Int→Value
 | none=>.nilIface
 | some c=>.iface 0 (.int .i64 c)
theorem Ma:vab none = .nilIface:=rfl
theorem La (c:Int):vab (some c) = .iface 0 (.int .i64 c):=rfl
theorem info3:(Try.prog.info? 3).map (fun i=>(i.zero,i.size,i.bytes))=some (some (.int .i64 0),1,8):=by kernel_rfl
theorem ow:(Try.prog.info? 4).map (fun i=>(i.zero,i.size,i.bytes))=some (some (.bool false),1,1):=by kernel_rfl
theorem P0:(Try.prog.info? 59).map (fun i=>(i.zero,i.size,i.bytes))=some (some (.agg #[(.slice none 0 0),(.int .i64 0),(.int .i64 0),(.int .i64 0),(.int .i64 0)]),5,56):=by kernel_rfl
theorem dD:(Try.prog.info? 60).map (fun i=>(i.zero,i.size,i.bytes))=some (some (.slice none 0 0),1,24):=by kernel_rfl
theorem O0:(Try.prog.info? 65).map (fun i=>(i.zero,i.size,i.bytes))=some (some (.agg #[(.int .i64 0),(.int .i64 0),(.int .i64 0),(.int .i64 0),(.int .i64 0),(.int .i64 0),(.string ⟨#[]⟩)]),7,64):=by kernel_rfl
structure Qn where
 f0:Int
 f1:Int
 f2:Int
 f3:Int
 f4:Int
 f5:Int
 f6:ByteArray
def k7:Qn:=⟨(0:Int),(0:Int),(0:Int),(0:Int),(0:Int),(0:Int),(⟨#[]⟩:ByteArray)⟩
def bD:Kd Qn:=Kd.pU (Kd.pair (Kd.int .i64) (Kd.pair (Kd.int .i64) (Kd.pair (Kd.int .i64) (Kd.pair (Kd.int .i64) (Kd.pair (Kd.int .i64) (Kd.pair (Kd.int .i64) Kd.string)))))) (fun x:Qn=>(x.f0,x.f1,x.f2,x.f3,x.f4,x.f5,x.f6))
theorem nQ {w:World} {x:Qn} {cs:List Value} (h:bD.K w x cs):cs=[.int .i64 x.f0,.int .i64 x.f1,.int .i64 x.f2,.int .i64 x.f3,.int .i64 x.f4,.int .i64 x.f5,.string x.f6]:=by
 obtain ⟨_,_,rfl,rfl,⟨_,_,rfl,rfl,⟨_,_,rfl,rfl,⟨_,_,rfl,rfl,⟨_,_,rfl,rfl,⟨_,_,rfl,rfl,rfl⟩⟩⟩⟩⟩⟩:=h;exact rfl
def Oc (xs:List Qn) (i:Int):Qn:=xs.getD i.toNat k7
theorem dI {w:World} {A:Option Addr} {n:Nat} {xs:List Qn} (h:Kd.C bD w A n xs) (i:Int) (h0:0 ≤ i) (h1:i < n):∃ ad , A=some ad∧w.cell? (ad.add (i.toNat * 7))=some (.int .i64 (Oc xs i).f0)∧w.cell? ⟨(ad.add (i.toNat * 7)).block,(ad.add (i.toNat * 7)).off + 1,none⟩=some (.int .i64 (Oc xs i).f1)∧w.cell? ⟨(ad.add (i.toNat * 7)).block,(ad.add (i.toNat * 7)).off + 2,none⟩=some (.int .i64 (Oc xs i).f2)∧w.cell? ⟨(ad.add (i.toNat * 7)).block,(ad.add (i.toNat * 7)).off + 3,none⟩=some (.int .i64 (Oc xs i).f3)∧w.cell? ⟨(ad.add (i.toNat * 7)).block,(ad.add (i.toNat * 7)).off + 4,none⟩=some (.int .i64 (Oc xs i).f4)∧w.cell? ⟨(ad.add (i.toNat * 7)).block,(ad.add (i.toNat * 7)).off + 5,none⟩=some (.int .i64 (Oc xs i).f5)∧w.cell? ⟨(ad.add (i.toNat * 7)).block,(ad.add (i.toNat * 7)).off + 6,none⟩=some (.string (Oc xs i).f6):=by
 obtain ⟨ad,c,e,_,hK,hc0⟩:=Kd.PJ h k7 i h0 h1;have hc:∀ j u,c[j]? = some u→w.cell? (ad.add (i.toNat * 7 + j))=some u:=hc0;obtain rfl:=nQ hK;exact ⟨ad,e,hc 0 _ rfl,by rw [← Gf _ _ 1 (by omega)];exact hc 1 _ rfl,by rw [← Gf _ _ 2 (by omega)];exact hc 2 _ rfl,by rw [← Gf _ _ 3 (by omega)];exact hc 3 _ rfl,by rw [← Gf _ _ 4 (by omega)];exact hc 4 _ rfl,by rw [← Gf _ _ 5 (by omega)];exact hc 5 _ rfl,by rw [← Gf _ _ 6 (by omega)];exact hc 6 _ rfl⟩
structure Tw where
 f0:(List Qn)
 f1:Int
 f2:Int
 f3:Int
 f4:Int
def z86:Tw:=⟨([]:List Qn),(0:Int),(0:Int),(0:Int),(0:Int)⟩
def ZR:Kd Tw:=Kd.pU (Kd.pair (Kd.slice 124 bD) (Kd.pair (Kd.int .i64) (Kd.pair (Kd.int .i64) (Kd.pair (Kd.int .i64) (Kd.int .i64))))) (fun x:Tw=>(x.f0,x.f1,x.f2,x.f3,x.f4))
theorem YR {w:World} {x:Tw} {cs:List Value} (h:ZR.K w x cs):∃ A0 c0,cs=[.slice A0 x.f0.length c0,.int .i64 x.f1,.int .i64 x.f2,.int .i64 x.f3,.int .i64 x.f4]∧x.f0.length ≤ c0∧bD.C w A0 x.f0.length x.f0:=by
 obtain ⟨_,_,rfl,⟨A0,c0,rfl,l0,g0⟩,⟨_,_,rfl,rfl,⟨_,_,rfl,rfl,⟨_,_,rfl,rfl,rfl⟩⟩⟩⟩:=h;exact ⟨A0,c0,rfl,l0,g0⟩
def je (xs:List Tw) (i:Int):Tw:=xs.getD i.toNat z86
theorem UL {w:World} {A:Option Addr} {n:Nat} {xs:List Tw} (h:Kd.C ZR w A n xs) (i:Int) (h0:0 ≤ i) (h1:i < n):∃ ad A0 c0,A=some ad∧w.cell? (ad.add (i.toNat * 5))=some (.slice A0 (je xs i).f0.length c0)∧w.cell? ⟨(ad.add (i.toNat * 5)).block,(ad.add (i.toNat * 5)).off + 1,none⟩=some (.int .i64 (je xs i).f1)∧w.cell? ⟨(ad.add (i.toNat * 5)).block,(ad.add (i.toNat * 5)).off + 2,none⟩=some (.int .i64 (je xs i).f2)∧w.cell? ⟨(ad.add (i.toNat * 5)).block,(ad.add (i.toNat * 5)).off + 3,none⟩=some (.int .i64 (je xs i).f3)∧w.cell? ⟨(ad.add (i.toNat * 5)).block,(ad.add (i.toNat * 5)).off + 4,none⟩=some (.int .i64 (je xs i).f4)∧(je xs i).f0.length ≤ c0∧bD.C w A0 (je xs i).f0.length (je xs i).f0:=by
 obtain ⟨ad,c,e,_,hK,hc0⟩:=Kd.PJ h z86 i h0 h1;have hc:∀ j u,c[j]? = some u→w.cell? (ad.add (i.toNat * 5 + j))=some u:=hc0;obtain ⟨A0,c0,rfl,l0,g0⟩:=YR hK;exact ⟨ad,A0,c0,e,hc 0 _ rfl,by rw [← Gf _ _ 1 (by omega)];exact hc 1 _ rfl,by rw [← Gf _ _ 2 (by omega)];exact hc 2 _ rfl,by rw [← Gf _ _ 3 (by omega)];exact hc 3 _ rfl,by rw [← Gf _ _ 4 (by omega)];exact hc 4 _ rfl,l0,g0⟩
structure P6 where
 f0:(List Int)
 f1:Int
 f2:Int
 f3:Int
 f4:(List Tw)
def k25:Kd P6:=Kd.pU (Kd.pair (Kd.slice 3 (Kd.int .i64)) (Kd.pair (Kd.int .i64) (Kd.pair (Kd.int .i64) (Kd.pair (Kd.int .i64) (Kd.slice 86 ZR))))) (fun x:P6=>(x.f0,x.f1,x.f2,x.f3,x.f4))
theorem fS {w:World} {x:P6} {cs:List Value} (h:k25.K w x cs):∃ A0 c0 A4 c4,cs=[.slice A0 x.f0.length c0,.int .i64 x.f1,.int .i64 x.f2,.int .i64 x.f3,.slice A4 x.f4.length c4]∧x.f0.length ≤ c0∧(Kd.int .i64).C w A0 x.f0.length x.f0∧x.f4.length ≤ c4∧ZR.C w A4 x.f4.length x.f4:=by
 obtain ⟨_,_,rfl,⟨A0,c0,rfl,l0,g0⟩,⟨_,_,rfl,rfl,⟨_,_,rfl,rfl,⟨_,_,rfl,rfl,⟨A4,c4,rfl,l4,g4⟩⟩⟩⟩⟩:=h;exact ⟨A0,c0,A4,c4,rfl,l0,g0,l4,g4⟩
structure lg where
 f0:Int
 f1:Int
 f2:Int
 f3:Int
 f4:Int
 f5:Int
 f6:ByteArray
def DE:lg:=⟨(0:Int),(0:Int),(0:Int),(0:Int),(0:Int),(0:Int),(⟨#[]⟩:ByteArray)⟩
def Dr:Kd lg:=Kd.pU (Kd.pair (Kd.int .i64) (Kd.pair (Kd.int .i64) (Kd.pair (Kd.int .i64) (Kd.pair (Kd.int .i64) (Kd.pair (Kd.int .i64) (Kd.pair (Kd.int .i64) Kd.string)))))) (fun x:lg=>(x.f0,x.f1,x.f2,x.f3,x.f4,x.f5,x.f6))
theorem cS:Kd.Heap Dr:=Kd.cJ _ (Kd.Ej (Kd.sk .i64) (Kd.Ej (Kd.sk .i64) (Kd.Ej (Kd.sk .i64) (Kd.Ej (Kd.sk .i64) (Kd.Ej (Kd.sk .i64) (Kd.Ej (Kd.sk .i64) Kd.bJ))))))
theorem bS {w:World} {x:lg} {cs:List Value} (h:Dr.K w x cs):cs=[.int .i64 x.f0,.int .i64 x.f1,.int .i64 x.f2,.int .i64 x.f3,.int .i64 x.f4,.int .i64 x.f5,.string x.f6]:=by
 obtain ⟨_,_,rfl,rfl,⟨_,_,rfl,rfl,⟨_,_,rfl,rfl,⟨_,_,rfl,rfl,⟨_,_,rfl,rfl,⟨_,_,rfl,rfl,rfl⟩⟩⟩⟩⟩⟩:=h;exact rfl
theorem TE {w:World} {base:Nat} {ok:Nat→Prop} {x:lg} {cs:List Value} (h:Dr.M w base ok x cs):cs=[.int .i64 x.f0,.int .i64 x.f1,.int .i64 x.f2,.int .i64 x.f3,.int .i64 x.f4,.int .i64 x.f5,.string x.f6]:=by
 obtain ⟨_,_,rfl,rfl,⟨_,_,rfl,rfl,⟨_,_,rfl,rfl,⟨_,_,rfl,rfl,⟨_,_,rfl,rfl,⟨_,_,rfl,rfl,rfl⟩⟩⟩⟩⟩⟩:=h;exact rfl
theorem yM (w:World) (base:Nat) (ok:Nat→Prop) (x:lg)  : Dr.M w base ok x [.int .i64 x.f0,.int .i64 x.f1,.int .i64 x.f2,.int .i64 x.f3,.int .i64 x.f4,.int .i64 x.f5,.string x.f6]:=⟨[.int .i64 x.f0],[.int .i64 x.f1,.int .i64 x.f2,.int .i64 x.f3,.int .i64 x.f4,.int .i64 x.f5,.string x.f6],rfl,rfl,⟨[.int .i64 x.f1],[.int .i64 x.f2,.int .i64 x.f3,.int .i64 x.f4,.int .i64 x.f5,.string x.f6],rfl,rfl,⟨[.int .i64 x.f2],[.int .i64 x.f3,.int .i64 x.f4,.int .i64 x.f5,.string x.f6],rfl,rfl,⟨[.int .i64 x.f3],[.int .i64 x.f4,.int .i64 x.f5,.string x.f6],rfl,rfl,⟨[.int .i64 x.f4],[.int .i64 x.f5,.string x.f6],rfl,rfl,⟨[.int .i64 x.f5],[.string x.f6],rfl,rfl,rfl⟩⟩⟩⟩⟩⟩
def Ua (xs:List lg) (i:Int):lg:=xs.getD i.toNat DE
theorem Xn {w:World} {A:Option Addr} {n:Nat} {xs:List lg} (h:Kd.C Dr w A n xs) (i:Int) (h0:0 ≤ i) (h1:i < n):∃ ad , A=some ad∧w.cell? (ad.add (i.toNat * 7))=some (.int .i64 (Ua xs i).f0)∧w.cell? ⟨(ad.add (i.toNat * 7)).block,(ad.add (i.toNat * 7)).off + 1,none⟩=some (.int .i64 (Ua xs i).f1)∧w.cell? ⟨(ad.add (i.toNat * 7)).block,(ad.add (i.toNat * 7)).off + 2,none⟩=some (.int .i64 (Ua xs i).f2)∧w.cell? ⟨(ad.add (i.toNat * 7)).block,(ad.add (i.toNat * 7)).off + 3,none⟩=some (.int .i64 (Ua xs i).f3)∧w.cell? ⟨(ad.add (i.toNat * 7)).block,(ad.add (i.toNat * 7)).off + 4,none⟩=some (.int .i64 (Ua xs i).f4)∧w.cell? ⟨(ad.add (i.toNat * 7)).block,(ad.add (i.toNat * 7)).off + 5,none⟩=some (.int .i64 (Ua xs i).f5)∧w.cell? ⟨(ad.add (i.toNat * 7)).block,(ad.add (i.toNat * 7)).off + 6,none⟩=some (.string (Ua xs i).f6):=by
 obtain ⟨ad,c,e,_,hK,hc0⟩:=Kd.PJ h DE i h0 h1;have hc:∀ j u,c[j]? = some u→w.cell? (ad.add (i.toNat * 7 + j))=some u:=hc0;obtain rfl:=bS hK;exact ⟨ad,e,hc 0 _ rfl,by rw [← Gf _ _ 1 (by omega)];exact hc 1 _ rfl,by rw [← Gf _ _ 2 (by omega)];exact hc 2 _ rfl,by rw [← Gf _ _ 3 (by omega)];exact hc 3 _ rfl,by rw [← Gf _ _ 4 (by omega)];exact hc 4 _ rfl,by rw [← Gf _ _ 5 (by omega)];exact hc 5 _ rfl,by rw [← Gf _ _ 6 (by omega)];exact hc 6 _ rfl⟩
structure Ke where
 f0:(List lg)
 f1:Int
 f2:Int
 f3:Int
 f4:Int
def WJ:Ke:=⟨([]:List lg),(0:Int),(0:Int),(0:Int),(0:Int)⟩
def Gs:Kd Ke:=Kd.pU (Kd.pair (Kd.slice 65 Dr) (Kd.pair (Kd.int .i64) (Kd.pair (Kd.int .i64) (Kd.pair (Kd.int .i64) (Kd.int .i64))))) (fun x:Ke=>(x.f0,x.f1,x.f2,x.f3,x.f4))
theorem eS:Kd.Heap Gs:=Kd.cJ _ (Kd.Ej (Kd.TK 65 cS) (Kd.Ej (Kd.sk .i64) (Kd.Ej (Kd.sk .i64) (Kd.Ej (Kd.sk .i64) (Kd.sk .i64)))))
theorem dS {w:World} {x:Ke} {cs:List Value} (h:Gs.K w x cs):∃ A0 c0,cs=[.slice A0 x.f0.length c0,.int .i64 x.f1,.int .i64 x.f2,.int .i64 x.f3,.int .i64 x.f4]∧x.f0.length ≤ c0∧Dr.C w A0 x.f0.length x.f0:=by
 obtain ⟨_,_,rfl,⟨A0,c0,rfl,l0,g0⟩,⟨_,_,rfl,rfl,⟨_,_,rfl,rfl,⟨_,_,rfl,rfl,rfl⟩⟩⟩⟩:=h;exact ⟨A0,c0,rfl,l0,g0⟩
theorem UE {w:World} {base:Nat} {ok:Nat→Prop} {x:Ke} {cs:List Value} (h:Gs.M w base ok x cs):∃ v0,cs=[v0,.int .i64 x.f1,.int .i64 x.f2,.int .i64 x.f3,.int .i64 x.f4]∧Dr.R 65 w base ok v0 x.f0:=by
 obtain ⟨_,_,rfl,⟨v0,rfl,g0⟩,⟨_,_,rfl,rfl,⟨_,_,rfl,rfl,⟨_,_,rfl,rfl,rfl⟩⟩⟩⟩:=h;exact ⟨v0,rfl,g0⟩
theorem zM (w:World) (base:Nat) (ok:Nat→Prop) (x:Ke) {v0:Value} (g0:Dr.R 65 w base ok v0 x.f0):Gs.M w base ok x [v0,.int .i64 x.f1,.int .i64 x.f2,.int .i64 x.f3,.int .i64 x.f4]:=⟨[v0],[.int .i64 x.f1,.int .i64 x.f2,.int .i64 x.f3,.int .i64 x.f4],rfl,⟨v0,rfl,g0⟩,⟨[.int .i64 x.f1],[.int .i64 x.f2,.int .i64 x.f3,.int .i64 x.f4],rfl,rfl,⟨[.int .i64 x.f2],[.int .i64 x.f3,.int .i64 x.f4],rfl,rfl,⟨[.int .i64 x.f3],[.int .i64 x.f4],rfl,rfl,rfl⟩⟩⟩⟩
def Ea (xs:List Ke) (i:Int):Ke:=xs.getD i.toNat WJ
theorem wj {w:World} {A:Option Addr} {n:Nat} {xs:List Ke} (h:Kd.C Gs w A n xs) (i:Int) (h0:0 ≤ i) (h1:i < n):∃ ad A0 c0,A=some ad∧w.cell? (ad.add (i.toNat * 5))=some (.slice A0 (Ea xs i).f0.length c0)∧w.cell? ⟨(ad.add (i.toNat * 5)).block,(ad.add (i.toNat * 5)).off + 1,none⟩=some (.int .i64 (Ea xs i).f1)∧w.cell? ⟨(ad.add (i.toNat * 5)).block,(ad.add (i.toNat * 5)).off + 2,none⟩=some (.int .i64 (Ea xs i).f2)∧w.cell? ⟨(ad.add (i.toNat * 5)).block,(ad.add (i.toNat * 5)).off + 3,none⟩=some (.int .i64 (Ea xs i).f3)∧w.cell? ⟨(ad.add (i.toNat * 5)).block,(ad.add (i.toNat * 5)).off + 4,none⟩=some (.int .i64 (Ea xs i).f4)∧(Ea xs i).f0.length ≤ c0∧Dr.C w A0 (Ea xs i).f0.length (Ea xs i).f0:=by
 obtain ⟨ad,c,e,_,hK,hc0⟩:=Kd.PJ h WJ i h0 h1;have hc:∀ j u,c[j]? = some u→w.cell? (ad.add (i.toNat * 5 + j))=some u:=hc0;obtain ⟨A0,c0,rfl,l0,g0⟩:=dS hK;exact ⟨ad,A0,c0,e,hc 0 _ rfl,by rw [← Gf _ _ 1 (by omega)];exact hc 1 _ rfl,by rw [← Gf _ _ 2 (by omega)];exact hc 2 _ rfl,by rw [← Gf _ _ 3 (by omega)];exact hc 3 _ rfl,by rw [← Gf _ _ 4 (by omega)];exact hc 4 _ rfl,l0,g0⟩
def Fc (xs:List (List Bool)) (i:Int):(List Bool):=xs.getD i.toNat ([]:List Bool)
theorem Sm {w:World} {A:Option Addr} {n:Nat} {xs:List (List Bool)} (h:Kd.C (Kd.slice 4 Kd.bool) w A n xs) (i:Int) (h0:0 ≤ i) (h1:i < n):∃ ad A0 c0,A=some ad∧w.cell? (ad.add i.toNat)=some (.slice A0 (Fc xs i).length c0)∧(Fc xs i).length ≤ c0∧Kd.bool.C w A0 (Fc xs i).length (Fc xs i):=by
 obtain ⟨ad,c,e,_,hK,hc0⟩:=Kd.PJ h ([]:List Bool) i h0 h1;have hc:∀ j u,c[j]? = some u→w.cell? (ad.add (i.toNat * 1 + j))=some u:=hc0;obtain ⟨A0,c0,rfl,l0,g0⟩:=hK;exact ⟨ad,A0,c0,e,by have hq:=hc 0 _ rfl;rwa [Nat.mul_one,Nat.add_zero] at hq,l0,g0⟩
structure WQ where
 f0:Int
 f1:Int
 f2:Int
 f3:ByteArray
 f4:(List WQ)
def Z5 (d:Kd WQ):Kd WQ:=Kd.pU (Kd.pair (Kd.int .i64) (Kd.pair (Kd.int .i64) (Kd.pair (Kd.int .i64) (Kd.pair Kd.string (Kd.slice 134 d))))) (fun x:WQ=>(x.f0,x.f1,x.f2,x.f3,x.f4))
theorem F0:Kd.Sub Z5 [134]:=Kd.pM _ (Kd.Ol (Kd.sub_const _ (by decide)) (Kd.Ol (Kd.sub_const _ (by decide)) (Kd.Ol (Kd.sub_const _ (by decide)) (Kd.Ol (Kd.sub_const _ (by decide)) (Kd.Tz 134 (by decide) Kd.lK)))))
theorem D7:∀ n,(Kd.upto Z5 5 [134] n).sz=5:=Kd.nM (fun _=>rfl)
def zal:Kd WQ:=Kd.fix Z5 5 [134] D7 (Kd.kK F0)
structure GA where
 f0:Int
 f1:Int
 f2:Int
 f3:(List WQ)
 f4:(List GA)
 f5:(List GA)
def b6 (d:Kd GA):Kd GA:=Kd.pU (Kd.pair (Kd.int .i64) (Kd.pair (Kd.int .i64) (Kd.pair (Kd.int .i64) (Kd.pair (Kd.slice 134 zal) (Kd.pair (Kd.slice 130 d) (Kd.slice 130 d)))))) (fun x:GA=>(x.f0,x.f1,x.f2,x.f3,x.f4,x.f5))
theorem G0:Kd.Sub b6 [130,134]:=Kd.pM _ (Kd.Ol (Kd.sub_const _ (by decide)) (Kd.Ol (Kd.sub_const _ (by decide)) (Kd.Ol (Kd.sub_const _ (by decide)) (Kd.Ol (Kd.sub_const _ (by decide)) (Kd.Ol (Kd.Tz 130 (by decide) Kd.lK) (Kd.Tz 130 (by decide) Kd.lK))))))
theorem E7:∀ n,(Kd.upto b6 6 [130,134] n).sz=6:=Kd.nM (fun _=>rfl)
def Aal:Kd GA:=Kd.fix b6 6 [130,134] E7 (Kd.kK G0)
theorem MR {α:Type} {d:Kd α} {e:Nat} {w:World} {base:Nat} {ok:Nat→Prop} {v:Value} {xs:List α} (h:ja (d.R e w base ok v xs)):v.oneCell' = true:=by
 obtain ⟨A,c,rfl⟩:=Kd.ze h.out
 rfl
theorem LR {α:Type} {d:Kd α} {e:Nat} {w:World} {base:Nat} {ok:Nat→Prop} {v:Value} {xs:List α} (h:ja (d.S e w base ok v xs)):v.oneCell' = true:=by
 obtain ⟨A,c,rfl⟩:=Kd.ze (Kd.ZJ h.out)
 rfl
theorem PR {α:Type} {d:Kd α} {e:Nat} {w:World} {base:Nat} {ok:Nat→Prop} {v:Value} {xs:List α} (h:ja (Kd.N d e w base ok v xs)):v.oneCell' = true:=by
 obtain ⟨A,c,rfl⟩:=Kd.XX h.out
 rfl
theorem NR {α:Type} {d:Kd α} {e:Nat} {w:World} {base:Nat} {ok:Nat→Prop} {v:Value} {xs:List α} (h:ja (d.Q e w base ok v xs)):v.oneCell' = true:=by
 obtain ⟨A,c,rfl,_⟩:=Kd.WX h.out
 rfl
def Om (P:Program) (t:TypeId) {α:Type} (d:Kd α) (fit:α→Prop):Prop :=
 ∀ {H:Type} {enc:TypeId × Value→H} {w:World} {base:Nat} {spare:Nat→Bool} {held:Bool} {fuel:Nat} {cs:List Value} {x:DataW H × List MemPlace},
  DataW.trod enc P w base spare held fuel t cs=some x→∃ a:α,d.K w a cs∧fit a
theorem aQ {P:Program} {t:TypeId} {k:IntKind} (ht:P.underlying t=some (.int k)):Om P t (Kd.int k) (fun n=>(Lit.int k n).wf=true):=by
 intro H enc w base spare held fuel cs x h;obtain ⟨n,rfl,_,hw⟩:=DataW.trod_int ht h;exact ⟨n,rfl,hw⟩
def Qt (n:Int):Prop:=-9223372036854775808 ≤ n∧n ≤ 9223372036854775807
theorem wf_i64 {n:Int} (h:(Lit.int .i64 n).wf=true):Qt n:=by
 simp [Lit.wf,IntKind.min,IntKind.max,IntKind.signed,IntKind.bits] at h;unfold Qt;omega
theorem Wg {P:Program} {t:TypeId} (ht:P.underlying t=some (.int .i64)):Om P t (Kd.int .i64) Qt:=by
 intro H enc w base spare held fuel cs x h;obtain ⟨n,h1,h2⟩:=aQ ht h;exact ⟨n,h1,wf_i64 h2⟩
theorem xF {P:Program} {t:TypeId} (ht:P.underlying t=some .string):Om P t Kd.string (fun s=>s.size ≤ 9223372036854775807):=by
 intro H enc w base spare held fuel cs x h;obtain ⟨s,rfl,_,hw⟩:=DataW.trod_string ht h;exact ⟨s,rfl,by simpa [maxLen] using hw⟩
theorem SA {α:Type} {p:Nat→α→Prop}:∀ n,(∀ i,i < n→∃ a,p i a)→∃ xs:List α,xs.length=n∧∀ (i:Nat) (a:α),xs[i]? = some a→p i a
 | 0,_=>⟨[],rfl,fun i a h=>by simp at h⟩
 | n + 1,h=>by
  obtain ⟨xs,hl,hx⟩:=SA n (fun i hi=>h i (by omega));obtain ⟨a,ha⟩:=h n (by omega);refine ⟨xs ++ [a],by simp [hl],fun i b hb=>?_⟩
  rcases Nat.lt_or_ge i xs.length with hi|hi
  ·rw [List.getElem?_append_left hi] at hb;exact hx i b hb
  ·have:i=n:=by
    have:=(List.getElem?_eq_some_iff.1 hb).1;simp [hl] at this;omega
   subst this;rw [List.getElem?_append_right hi,hl] at hb;simp at hb;exact hb ▸ ha
theorem tu {P:Program} {t e e':TypeId} {α:Type} {d:Kd α} {fit:α→Prop} (ht:P.underlying t=some (.slice e)) (hs:P.cellsOf e=d.sz) (h:Om P e d fit):Om P t (Kd.slice e' d) (fun l=>l.length ≤ 9223372036854775807∧∀ a ∈ l,fit a):=by
 intro H enc w base spare held fuel cs x hx
 rcases Go.Deep.open_slice ht hx with ⟨rfl,_⟩|⟨a,len,cap,m,n,D,Pl,rfl,hb,hl,hm,hmm,_,hel⟩
 ·exact ⟨[],⟨none,0,rfl,Nat.le_refl _,rfl,by simp,fun hp=>absurd hp (by simp)⟩,by simp,by simp⟩
 ·have hle:len ≤ m:=by rw [hmm];split <;> omega
  have hmx:len ≤ 9223372036854775807:=by simp only [maxLen] at hm;omega
  obtain ⟨xs,hxl,hxs⟩:=SA (α:=α) (p:=fun i y=>∃ c,c.length=d.sz∧d.K w y c∧(∀ j u,c[j]? = some u→w.cell? (a.add (i * d.sz + j))=some u)∧fit y) len (fun i hi=>by
   obtain ⟨cs',h1,h2⟩:=hel i (by omega);obtain ⟨y,hy,hf⟩:=h h2;obtain ⟨_,Kw,WE⟩:=World.cells?_some h1;refine ⟨y,cs',by rw [Kw,hs],hy,fun j u hu=>?_,hf⟩;have hj:j < P.cellsOf e:=by rw [← Kw];exact (List.getElem?_eq_some_iff.1 hu).1
   rw [← hs,← Go.Deep.add_add,WE j hj]
   exact hu)
  refine ⟨xs,⟨some a,cap,by rw [hxl],by omega,rfl,by omega,fun _=>⟨a,rfl,fun j p hj=>?_⟩⟩,by omega,fun y hy=>?_⟩
  ·obtain ⟨c,h1,h2,h3,_⟩:=hxs j p hj;exact ⟨c,h1,h2,h3⟩
  ·obtain ⟨i,hi,rfl⟩:=List.getElem_of_mem hy;obtain ⟨c,_,_,_,h4⟩:=hxs i _ (List.getElem?_eq_getElem hi);exact h4
def kI (P:Program) (fs:List Field) (off:Nat) {α:Type} (d:Kd α) (fit:α→Prop):Prop :=
 ∀ {H:Type} {enc:TypeId × Value→H} {w:World} {base:Nat} {spare:Nat→Bool} {held:Bool} {n:Nat} {cs:List Value},
  (∀ f ∈ fs,∃ y,DataW.trod enc P w base spare held n f.type ((cs.drop f.offset).take (P.cellsOf f.type))=some y)→cs.length=off + d.sz→∃ a:α,d.K w a (cs.drop off)∧fit a
theorem Iw {P:Program} {f:Field} {off:Nat} {α:Type} {d:Kd α} {fit:α→Prop} (ho:f.offset=off) (hs:P.cellsOf f.type=d.sz) (h:Om P f.type d fit):kI P [f] off d fit:=by
 intro H enc w base spare held n cs hf hl;obtain ⟨y,hy⟩:=hf f (by simp);rw [ho,hs,List.take_of_length_le (by rw [List.length_drop];omega)] at hy;exact h hy
theorem Uf {P:Program} {f:Field} {fs:List Field} {off off2:Nat} {α β:Type} {d:Kd α} {d2:Kd β} {fit:α→Prop} {qab:β→Prop} (ho:f.offset=off) (hs:P.cellsOf f.type=d.sz) (ho2:off2=off + d.sz) (h:Om P f.type d fit) (h2:kI P fs off2 d2 qab):kI P (f :: fs) off (Kd.pair d d2) (fun p=>fit p.1∧qab p.2):=by
 intro H enc w base spare held n cs hf hl;have hl':cs.length=off + (d.sz + d2.sz):=hl;obtain ⟨y,hy⟩:=hf f (by simp);rw [ho,hs] at hy;obtain ⟨a,ha,fa⟩:=h hy;obtain ⟨b,hb,fb⟩:=h2 (fun g hg=>hf g (List.mem_cons_of_mem _ hg)) (by omega);refine ⟨(a,b),⟨(cs.drop off).take d.sz,cs.drop off2,?_,ha,hb⟩,fa,fb⟩;rw [ho2,← List.drop_drop,List.take_append_drop]
theorem Ss {P:Program} {t:TypeId} {fs:Array Field} {α:Type} {d:Kd α} {fit:α→Prop} (ht:P.underlying t=some (.struct fs)) (hs:P.cellsOf t=d.sz) (h:kI P fs.toList 0 d fit):Om P t d fit:=by
 intro H enc w base spare held fuel cs x hx;obtain ⟨xs,n,_,_,hl,hxl,hf⟩:=DataW.trod_struct ht hx
 have:=h (w:=w) (enc:=enc) (base:=base) (spare:=spare) (held:=held) (n:=n) (cs:=cs) (fun f hfm=>by
  obtain ⟨i,hi,rfl⟩:=List.getElem_of_mem hfm;have hi':i < fs.size:=by simpa using hi
  have h1:=hf i (fs.toList[i]) (by simp [hi']);rw [List.getElem?_eq_getElem (by omega)] at h1
  exact ⟨_,h1⟩) (by omega)
 simpa using this
theorem Xz {P:Program} {t:TypeId} {α β:Type} {d:Kd α} {fit:α→Prop} {g:β→α} (gi:α→β) (hg:∀ a,g (gi a)=a) (h:Om P t d fit):Om P t (Kd.pU d g) (fun b=>fit (g b)):=by
 intro H enc w base spare held fuel cs x hx;obtain ⟨a,ha,hf⟩:=h hx;refine ⟨gi a,?_,?_⟩
 ·show d.K w (g (gi a)) cs
  rw [hg];exact ha
 ·show fit (g (gi a))
  rw [hg];exact hf
theorem KR {P:Program} {t:TypeId} {fs:Array Field} {α:Type} {d:Kd α} {fit:α→Prop} {r:Reach} {b0:Nat} {H:Type} {enc:TypeId × Value→H} {w:World} {base:Nat} {spare:Nat→Bool} {held:Bool} {v:Value} {dt:DataW H} {p:List MemPlace}
  (ht:P.underlying t=some (.struct fs)) (h:Om P t d fit) (hv:Value.okWide P w r b0 t v) (hd:DataW.Trod enc P w base spare held t v dt p) :
  ∃ (a:α) (cs:Array Value),v = .agg cs∧d.K w a cs.toList∧fit a:=by
 obtain ⟨cs,rfl,hsz⟩:=Go.WideShapes.okWide_struct ht hv;obtain ⟨fuel,hf⟩:=hd;obtain ⟨a,ha,H_⟩:=h hf;exact ⟨a,cs,rfl,by simpa [Value.cells] using ha,H_⟩
theorem cV {P:Program} {t e':TypeId} {α:Type} {d:Kd α} {fit:List α→Prop} {H:Type} {enc:TypeId × Value→H} {w:World} {base:Nat} {spare:Nat→Bool} {held:Bool} {A:Option Addr} {n c:Nat} {dt:DataW H} {p:List MemPlace}
  (h:Om P t (Kd.slice e' d) fit) (hd:DataW.Trod enc P w base spare held t (.slice A n c) dt p) :
  ∃ l:List α,n=l.length∧l.length ≤ c∧d.C w A l.length l∧fit l:=by
 obtain ⟨fuel,hf⟩:=hd;obtain ⟨l,⟨A',c',he,hl,hc⟩,hfl⟩:=h hf;simp only [Value.cells,List.cons.injEq,Value.slice.injEq,and_true] at he;obtain ⟨rfl,rfl,rfl⟩:=he;exact ⟨l,rfl,hl,hc,hfl⟩
theorem uM:Om Try.prog 22 (Kd.slice 3 (Kd.int .i64)) (fun l=>l.length ≤ 9223372036854775807∧∀ a ∈ l,Qt a):=tu Try.underlying22 (by kernel_rfl) (Wg Try.underlying3)
def iL (x:Qn):Prop:=Qt x.f0∧Qt x.f1∧Qt x.f2∧Qt x.f3∧Qt x.f4∧Qt x.f5∧(fun s=>s.size ≤ 9223372036854775807) x.f6
theorem JR:Om Try.prog 124 bD iL:=Xz (fun p=>⟨p.1,p.2.1,p.2.2.1,p.2.2.2.1,p.2.2.2.2.1,p.2.2.2.2.2.1,p.2.2.2.2.2.2⟩) (fun _=>rfl) (Ss Try.underlying124 (by kernel_rfl) (Uf rfl (by kernel_rfl) (by kernel_rfl) (Wg Try.underlying3) (Uf rfl (by kernel_rfl) (by kernel_rfl) (Wg Try.underlying3) (Uf rfl (by kernel_rfl) (by kernel_rfl) (Wg Try.underlying3) (Uf rfl (by kernel_rfl) (by kernel_rfl) (Wg Try.underlying3) (Uf rfl (by kernel_rfl) (by kernel_rfl) (Wg Try.underlying3) (Uf rfl (by kernel_rfl) (by kernel_rfl) (Wg Try.underlying3) (Iw rfl (by kernel_rfl) (xF Try.underlying9)))))))))
theorem ZU:Om Try.prog 84 (Kd.slice 124 bD) (fun l=>l.length ≤ 9223372036854775807∧∀ a ∈ l,iL a):=tu Try.underlying84 (by kernel_rfl) JR
def RS (x:Tw):Prop:=(fun l=>l.length ≤ 9223372036854775807∧∀ a ∈ l,iL a) x.f0∧Qt x.f1∧Qt x.f2∧Qt x.f3∧Qt x.f4
theorem YU:Om Try.prog 86 ZR RS:=Xz (fun p=>⟨p.1,p.2.1,p.2.2.1,p.2.2.2.1,p.2.2.2.2⟩) (fun _=>rfl) (Ss Try.underlying86 (by kernel_rfl) (Uf rfl (by kernel_rfl) (by kernel_rfl) ZU (Uf rfl (by kernel_rfl) (by kernel_rfl) (Wg Try.underlying3) (Uf rfl (by kernel_rfl) (by kernel_rfl) (Wg Try.underlying3) (Uf rfl (by kernel_rfl) (by kernel_rfl) (Wg Try.underlying3) (Iw rfl (by kernel_rfl) (Wg Try.underlying3)))))))
theorem bV:Om Try.prog 23 (Kd.slice 86 ZR) (fun l=>l.length ≤ 9223372036854775807∧∀ a ∈ l,RS a):=tu Try.underlying23 (by kernel_rfl) YU
def SS (x:P6):Prop:=(fun l=>l.length ≤ 9223372036854775807∧∀ a ∈ l,Qt a) x.f0∧Qt x.f1∧Qt x.f2∧Qt x.f3∧(fun l=>l.length ≤ 9223372036854775807∧∀ a ∈ l,RS a) x.f4
theorem aV:Om Try.prog 25 k25 SS:=Xz (fun p=>⟨p.1,p.2.1,p.2.2.1,p.2.2.2.1,p.2.2.2.2⟩) (fun _=>rfl) (Ss Try.underlying25 (by kernel_rfl) (Uf rfl (by kernel_rfl) (by kernel_rfl) uM (Uf rfl (by kernel_rfl) (by kernel_rfl) (Wg Try.underlying3) (Uf rfl (by kernel_rfl) (by kernel_rfl) (Wg Try.underlying3) (Uf rfl (by kernel_rfl) (by kernel_rfl) (Wg Try.underlying3) (Iw rfl (by kernel_rfl) bV))))))
def Wf.f (a0:Int) (a1:Int) (a2:Int):Option (Bool):=if a0 ≥ a1 then (some (decide (a0 ≤ a2))) else (some false)
theorem Wf.calls (a0:Int) (a1:Int) (a2:Int) (r:Bool) (w:World) (h:Wf.f a0 a1 a2=some r) :
  Calls Try.prog 55 #[.int .i64 a0,.int .i64 a1,.int .i64 a2] w fun e w'=>e = .returned (.bool r)∧Zc w w':=by
 have H:(if a0 ≥ a1 then (some (decide (a0 ≤ a2))) else (some false))=some r:=h;clear h
 by_cases c4:a0 ≥ a1
 ·rw [if_pos c4] at H;have Fl:decide (a1 ≤ a0)=true:=decide_eq_true c4;clear c4;obtain rfl:=Option.some.inj H;go_enter Try.func55,Try.ntmps55;go_wp2;go_ret;exact ⟨by first|rfl|(simp;done)|(simp [*];done),by repeat (first|exact Zc.refl _|apply Zc.step)⟩
 ·rw [if_neg c4] at H;have Fl:decide (a1 ≤ a0)=false:=decide_eq_false c4;clear c4;obtain rfl:=Option.some.inj H;go_enter Try.func55,Try.ntmps55;go_wp2;go_ret;exact ⟨by first|rfl|(simp;done)|(simp [*];done),by repeat (first|exact Zc.refl _|apply Zc.step)⟩
theorem uZ {W w1:World} (hb:Below W.heap.size W w1):(∀ b o,b < W.heap.size→w1.cell? ⟨b,o,none⟩=W.cell? ⟨b,o,none⟩)∧(∀ b o,b < W.heap.size→w1.frozen? ⟨b,o,none⟩=W.frozen? ⟨b,o,none⟩) :=
 ⟨fun b o h=>hb.cell (p:=⟨b,o,none⟩) h,fun b o h=>hb.frozen (p:=⟨b,o,none⟩) h⟩
theorem xw {α:Type} {l:List α} {p:α→Bool} {k:Nat} {d:α} (hk:k < l.length) (h:(l.take k).any p=false) (hx:p (l.getD k d)=false):(l.take (k + 1)).any p=false:=by
 rw [List.take_succ_eq_append_getElem hk,List.any_append,h]
 simpa [List.getD_eq_getElem?_getD,List.getElem?_eq_getElem hk] using hx
theorem rP {α:Type} {l:List α} {p:α→Bool} {k:Nat} {d:α} (hk:k < l.length) (hx:p (l.getD k d)=true):l.any p=true:=by
 rw [List.any_eq_true];exact ⟨l[k],List.getElem_mem hk,by simpa [List.getD_eq_getElem?_getD,List.getElem?_eq_getElem hk] using hx⟩
theorem lE (g:Nat) (lb:Array Value) (p:lg→Bool) (eg:∀ args w,(callFunc g args).run Try.prog w = .ok (.enter g args) w) (A0:Option Addr) (c0:Nat) (l0:List lg) (w:World) (vm:Kd.C Dr w A0 l0.length l0) (hc0:l0.length ≤ c0)
  (hp:∀ (W:World) (x:lg),Below w.heap.size w W→Calls Try.prog g (#[(.agg #[.int .i64 x.f0,.int .i64 x.f1,.int .i64 x.f2,.int .i64 x.f3,.int .i64 x.f4,.int .i64 x.f5,.string x.f6])] ++ lb) W fun e w'=>e = .returned (.bool (p x))∧Below W.heap.size W w') :
  Calls Try.prog 120 #[.slice A0 l0.length c0,.func (.func g) #[] lb] w fun e w'=>(∃ i:Int,e = .returned (.int .i64 i)∧decide (0 ≤ i)=l0.any p)∧Below w.heap.size w w':=by
 have hmx:=vm.2.1;have Xp:=ja.mk vm;have dK:=ja.mk hc0;have HP:=ja.mk hp;clear vm hc0 hp;go_enter Try.func120,Try.ntmps120;go_wp2
 go_loopg [5,8] l0.length (fun gg _ s8 wr=>∃ kk:Nat,kk ≤ l0.length∧l0.length - kk ≤ gg∧s8 = .int .i64 kk∧ja (Below w.heap.size w wr)∧ja ((l0.take kk).any p=false))
 case atStart=>exact ⟨0,Nat.zero_le _,by omega,rfl,⟨Below.refl _ w⟩,⟨by simp⟩⟩
 case round =>
  (try clear BW);(try clear HA);obtain ⟨kk,hkk,hg,rfl,BW,HA⟩:=hrel
  by_cases hlt:kk < l0.length
  ·have p1:0 ≤ (kk:Int):=by omega
   have q1:(kk:Int) < (l0.length:Int):=by omega
   obtain ⟨ad,e1,hx0,hx1,Xw,Lr,Hs,CM,BM⟩:=Xn Xp.out (kk:Int) p1 q1;cases e1;simp only [Int.toNat_natCast] at hx0 hx1 Xw Lr Hs CM BM;replace hx0:=(BW.out.cell (World.block_lt_of_cell? w _ hx0)).trans hx0;replace hx1:=(BW.out.cell (World.block_lt_of_cell? w _ hx1)).trans hx1;replace Xw:=(BW.out.cell (World.block_lt_of_cell? w _ Xw)).trans Xw;replace Lr:=(BW.out.cell (World.block_lt_of_cell? w _ Lr)).trans Lr;replace Hs:=(BW.out.cell (World.block_lt_of_cell? w _ Hs)).trans Hs;replace CM:=(BW.out.cell (World.block_lt_of_cell? w _ CM)).trans CM;replace BM:=(BW.out.cell (World.block_lt_of_cell? w _ BM)).trans BM;have Nr:=HP.out wr (Ua l0 (kk:Int)) BW.out;cases hq:p (Ua l0 (kk:Int)) with
   | true =>
    rw [hq] at Nr;go_wp2_with (go_at_fn g;refine Nr.mono ?_;rintro e w1 ⟨rfl,yA⟩);go_ret;exact ⟨⟨_,rfl,by rw [rP (d:=DE) hlt hq];simp⟩,BW.out.trans (yA.mono BW.out.size)⟩
   | false =>
    rw [hq] at Nr;go_wp2_with (go_at_fn g;refine Nr.mono ?_;rintro e w1 ⟨rfl,yA⟩)
    go_roundg (l0.length - (kk + 1))
    case measure=>omega
    case rel=>exact ⟨kk + 1,by omega,by omega,by go_num,⟨BW.out.trans (yA.mono BW.out.size)⟩,⟨xw (d:=DE) hlt HA.out hq⟩⟩
  ·have zam:¬ (kk:Int) < (l0.length:Int):=by omega
   have he:kk=l0.length:=by omega
   subst he;go_wp2;go_ret;exact ⟨⟨_,rfl,by have h_:=HA.out;rw [List.take_length] at h_;rw [h_];simp⟩,BW.out⟩
theorem Rw (g:Nat) (lb:Array Value) (p:lg→Bool) (eg:∀ args w,(callFunc g args).run Try.prog w = .ok (.enter g args) w) (A0:Option Addr) (c0:Nat) (l0:List lg) (w:World) (vm:Kd.C Dr w A0 l0.length l0) (hc0:l0.length ≤ c0)
  (hp:∀ (W:World) (x:lg),Below w.heap.size w W→Calls Try.prog g (#[(.agg #[.int .i64 x.f0,.int .i64 x.f1,.int .i64 x.f2,.int .i64 x.f3,.int .i64 x.f4,.int .i64 x.f5,.string x.f6])] ++ lb) W fun e w'=>e = .returned (.bool (p x))∧Below W.heap.size W w') :
  Calls Try.prog 102 #[.slice A0 l0.length c0,.func (.func g) #[] lb] w fun e w'=>e = .returned (.bool (l0.any p))∧Below w.heap.size w w':=by
 have HI:=ja.mk (lE g lb p eg A0 c0 l0 w vm hc0 hp);clear vm hc0 hp;go_enter Try.func102,Try.ntmps102;go_wp2_with (go_at_call 120;refine HI.out.mono ?_;rintro e w1 ⟨⟨i,rfl,hi⟩,yA⟩;have HD:=ja.mk hi;clear hi);go_ret;exact ⟨by rw [← HD.out];first|rfl|simp,yA⟩
def Kb.l0:Nat→List ByteArray→ByteArray→Int→Int→Option (Int)
 | 0,_,_,_,_=>none
 | k + 1,x0,x1,x7,x8=>if x8 < x7 then (if 0 ≤ x8 then (if x8 < (x0.length:Int) then (if x1.toList=(Pf ByteArray.empty x0 x8).toList then (some x8) else (Kb.l0 k x0 x1 x7 (wrap64 (x8 + 1)))) else (none)) else (none)) else (some (-1))
def Kb.f (k:Nat) (l0:List ByteArray) (a1:ByteArray):Option (Int):=Kb.l0 k l0 a1 (l0.length:Int) 0
theorem Kb.VC:∀ k,(∀ y0 y1 y2 y3,Gm (Kb.l0 k y0 y1 y2 y3) (Kb.l0 (k + 1) y0 y1 y2 y3))
 | 0=>fun _ _ _ _ r h=>by simp [Kb.l0] at h
 | k + 1=>by
  have gS:=Kb.VC k
  ·intro y0 y1 y2 y3;unfold Kb.l0
   repeat' first
   | (with_reducible exact gS _ _ _ _)
   | (with_reducible exact Gm.refl _)
   | (with_reducible exact Gm.none _)
   | (with_reducible refine Gm.ite ?_ ?_)
   | (with_reducible refine Gm.bind ?_ (fun _=>?_))
   | exact gS _ _ _ _
   | exact Gm.none _
   | refine Gm.ite ?_ ?_
   | refine Gm.bind ?_ (fun _=>?_)
theorem Kb.mono:∀ a0 a1 k,Gm (Kb.f k a0 a1) (Kb.f (k + 1) a0 a1):=by
 intro a0 a1 k;have gS:=Kb.VC k;unfold Kb.f
 repeat' first
   | (with_reducible exact gS _ _ _ _)
   | (with_reducible exact Gm.refl _)
   | (with_reducible exact Gm.none _)
   | (with_reducible refine Gm.ite ?_ ?_)
   | (with_reducible refine Gm.bind ?_ (fun _=>?_))
   | exact gS _ _ _ _
   | exact Gm.none _
   | refine Gm.ite ?_ ?_
   | refine Gm.bind ?_ (fun _=>?_)
theorem Kb.calls (k:Nat) (A0:Option Addr) (c0:Nat) (l0:List ByteArray) (a1:ByteArray) (r:Int) (w:World) (vm:Kd.C Kd.string w A0 l0.length l0) (hc0:l0.length ≤ c0) (h:Kb.f k l0 a1=some r) :
  Calls Try.prog 109 #[.slice A0 l0.length c0,.string a1] w fun e w'=>e = .returned (.int .i64 r)∧Zc w w':=by
 have Xp:=ja.mk vm;have dK:=ja.mk hc0;clear vm hc0;have H:(Kb.l0 k l0 a1 (l0.length:Int) 0)=some r:=h;clear h;have H':=ja.mk H;clear H;go_enter Try.func109,Try.ntmps109;go_wp2
 go_loopg [8] k (fun kq v8 w'=>∃ (bq:Int),v8 = .int .i64 bq∧ja (Kb.l0 kq l0 a1 (l0.length:Int) bq=some r)∧ja (kq ≤ k)∧Zc w w')
 case atStart=>exact ⟨(0),(by first|rfl|(simp;done)|(simp [*];done)),H',⟨Nat.le_refl _⟩,by repeat (first|exact Zc.refl _|apply Zc.step)⟩
 case round =>
  clear H'
  try clear c1
  try clear p2
  (try clear HA);(try clear Rh);obtain ⟨bq,rfl,HA,Rh,⟨m1,rfl⟩⟩:=hrel;cases gk with
  | zero=>exact absurd HA.out (by simp [Kb.l0])
  | succ k1 =>
   have H:=HA.out;clear HA;simp only [Kb.l0] at H
   by_cases c3:bq < (l0.length:Int)
   ·rw [if_pos c3] at H;have uj:decide (bq < (l0.length:Int))=true:=decide_eq_true c3;clear c3
    by_cases c4:0 ≤ bq
    ·rw [if_pos c4] at H;have Fl:decide (0 ≤ bq)=true:=decide_eq_true c4;clear c4
     by_cases c5:bq < (l0.length:Int)
     ·rw [if_pos c5] at H;have ak:decide (bq < (l0.length:Int))=true:=decide_eq_true c5;clear c5
      by_cases c6:a1.toList=(Pf ByteArray.empty l0 bq).toList
      ·rw [if_pos c6] at H;have Mm:(a1.toList == (Pf ByteArray.empty l0 bq).toList)=true:=beq_iff_eq.mpr c6;have jB:(a1.toList != (Pf ByteArray.empty l0 bq).toList)=false:=bne_eq_false_iff_eq.mpr c6;clear c6;obtain rfl:=Option.some.inj H;have jg:0 ≤ (bq:Int):=Sa;have ig:bq < (l0.length:Int):=Sa;obtain ⟨He,El,me⟩:=Kd.Rv Xp.out bq jg ig;cases El;replace jg:=eq_true jg;replace ig:=eq_true ig;go_wp2;go_ret;exact ⟨by first|rfl|(simp;done)|(simp [*];done),by repeat (first|exact Zc.refl _|apply Zc.step)⟩
      ·rw [if_neg c6] at H;have Mm:(a1.toList == (Pf ByteArray.empty l0 bq).toList)=false:=beq_eq_false_iff_ne.mpr c6;have jB:(a1.toList != (Pf ByteArray.empty l0 bq).toList)=true:=bne_iff_ne.mpr c6;have H':=ja.mk H;clear H;have jg:0 ≤ (bq:Int):=Sa;have ig:bq < (l0.length:Int):=Sa;obtain ⟨He,El,me⟩:=Kd.Rv Xp.out bq jg ig;cases El;replace jg:=eq_true jg;replace ig:=eq_true ig;go_wp2
       go_roundg k1
       case measure=>have:=Rh.out;omega
       case rel=>exact ⟨(wrap64 (bq + 1)),(by first|rfl|(simp;done)|(simp [*];done)),H',⟨by have:=Rh.out;omega⟩,by repeat (first|exact Zc.refl _|apply Zc.step)⟩
     ·rw [if_neg c5] at H;exact absurd H (by simp)
    ·rw [if_neg c4] at H;exact absurd H (by simp)
   ·rw [if_neg c3] at H;have uj:decide (bq < (l0.length:Int))=false:=decide_eq_false c3;clear c3;obtain rfl:=Option.some.inj H;go_wp2;go_ret;exact ⟨by first|rfl|(simp;done)|(simp [*];done),by repeat (first|exact Zc.refl _|apply Zc.step)⟩
def Tc.f (k:Nat) (l0:List ByteArray) (a1:ByteArray):Option (Bool):=(Kb.f k l0 a1).bind fun t101=>(some (decide (t101 ≥ 0)))
theorem Tc.mono:∀ a0 a1 k,Gm (Tc.f k a0 a1) (Tc.f (k + 1) a0 a1):=by
 intro a0 a1 k;unfold Tc.f
 repeat' first
   | (with_reducible exact Kb.mono _ _ _)
   | (with_reducible exact Gm.refl _)
   | (with_reducible exact Gm.none _)
   | (with_reducible refine Gm.ite ?_ ?_)
   | (with_reducible refine Gm.bind ?_ (fun _=>?_))
   | exact Kb.mono _ _ _
   | exact Gm.none _
   | refine Gm.ite ?_ ?_
   | refine Gm.bind ?_ (fun _=>?_)
theorem Tc.calls (k:Nat) (A0:Option Addr) (c0:Nat) (l0:List ByteArray) (a1:ByteArray) (r:Bool) (w:World) (vm:Kd.C Kd.string w A0 l0.length l0) (hc0:l0.length ≤ c0) (h:Tc.f k l0 a1=some r) :
  Calls Try.prog 126 #[.slice A0 l0.length c0,.string a1] w fun e w'=>e = .returned (.bool r)∧Zc w w':=by
 have Xp:=ja.mk vm;have dK:=ja.mk hc0;clear vm hc0;have H:((Kb.f k l0 a1).bind fun t101=>(some (decide (t101 ≥ 0))))=some r:=h;clear h;replace H:=Option.bind_eq_some_iff.mp H;obtain ⟨t101,cw,H⟩:=H;replace H:(some (decide (t101 ≥ 0)))=some r:=H;have A3:=ja.mk cw;clear cw;obtain rfl:=Option.some.inj H;go_enter Try.func126,Try.ntmps126;go_wp2_with (first|((with_reducible refine mb (f:=109) rfl ?_);refine Mc (some 7) rfl rfl Try.func109 (by kernel_rfl) rfl #[.slice A0 l0.length c0,.string a1] rfl (by (try simp only [List.map_toArray,List.map_cons,List.map_nil]);first|done|rfl|(simp only [List.length_drop,List.length_take];rfl)) ?_;(with_reducible refine (Kb.calls k _ _ l0 a1 t101 _ ?dc ?Zb A3.out).mono ?_);(case dc=>repeat (first|exact Xp.out|(with_reducible refine Kd.Bb ?_ _)|(with_reducible refine Kd.Ab ?_ _)|(with_reducible refine Kd.Qb ?_)));(case Zb=>exact dK.out);rintro e w' ⟨rfl,⟨nd,rfl⟩⟩;refine ⟨_,rfl,?_⟩));go_ret;exact ⟨by first|rfl|(simp;done)|(simp [*];done),by repeat (first|exact Zc.refl _|apply Zc.step)⟩
def Gn.f (k:Nat) (a0:ByteArray):Option (Bool):=(Tc.f k (([(⟨#[61,61]⟩:ByteArray),(⟨#[60]⟩:ByteArray),(⟨#[38]⟩:ByteArray),(⟨#[43]⟩:ByteArray),(⟨#[45]⟩:ByteArray),(⟨#[42]⟩:ByteArray)]:List ByteArray)) a0).bind fun t104=>(some t104)
theorem Gn.calls (k:Nat) (a0:ByteArray) (r:Bool) (w:World) (h:Gn.f k a0=some r) :
  Calls Try.prog 122 #[.string a0] w fun e w'=>e = .returned (.bool r)∧Below w.heap.size w w':=by
 have HB:=ja.mk (Below.refl w.heap.size w);have H:((Tc.f k (([(⟨#[61,61]⟩:ByteArray),(⟨#[60]⟩:ByteArray),(⟨#[38]⟩:ByteArray),(⟨#[43]⟩:ByteArray),(⟨#[45]⟩:ByteArray),(⟨#[42]⟩:ByteArray)]:List ByteArray)) a0).bind fun t104=>(some t104))=some r:=h;clear h;obtain ⟨zn,Ei⟩:∃ y_:List ByteArray,y_=(([(⟨#[61,61]⟩:ByteArray),(⟨#[60]⟩:ByteArray),(⟨#[38]⟩:ByteArray),(⟨#[43]⟩:ByteArray),(⟨#[45]⟩:ByteArray),(⟨#[42]⟩:ByteArray)]:List ByteArray)):=⟨_,rfl⟩;replace H:((Tc.f k zn a0).bind fun t104=>(some t104))=some r:=by first|(rw [Ei];with_reducible exact H)|(have Ie:=(Option.bind_some _ _).symm.trans H;rw [Ei];with_reducible exact Ie)|(have Ie:=(Option.bind_some _ _).symm.trans H;with_reducible exact Ie)|with_reducible exact H|(rw [Ei];exact H)|exact H
 have nr:=ja.mk Ei;clear Ei;replace H:=Option.bind_eq_some_iff.mp H;obtain ⟨t104,OP,H⟩:=H;replace H:(some t104)=some r:=H;have A2:=ja.mk OP;clear OP;obtain rfl:=Option.some.inj H;go_enter Try.func122,Try.ntmps122;go_wp2_with (first|((with_reducible refine qb (N:=3) rfl ?_);refine Kd.Bk Kd.string _ 9 ?hg (N:=3) ?hd (xs:=([(⟨#[61,61]⟩:ByteArray),(⟨#[60]⟩:ByteArray),(⟨#[38]⟩:ByteArray),(⟨#[43]⟩:ByteArray),(⟨#[45]⟩:ByteArray),(⟨#[42]⟩:ByteArray)]:List ByteArray)) (inner:=[.string (⟨#[61,61]⟩:ByteArray),.string (⟨#[60]⟩:ByteArray),.string (⟨#[38]⟩:ByteArray),.string (⟨#[43]⟩:ByteArray),.string (⟨#[45]⟩:ByteArray),.string (⟨#[42]⟩:ByteArray)]) (ok:=fun _=>True) (Sh:=fun _=>True) ?hr ?hp (fun _ hk=>hk) trivial (Below.refl _ _) (Nat.le_refl _) (by simp) ?_;(case hd=>rfl);(case hg=>rfl);(case hr=>first|(go_simp;done)|(go_simp;rfl));(case hp=>exact (Ed.one (show Kd.M Kd.string _ _ _ (⟨#[61,61]⟩:ByteArray) [.string (⟨#[61,61]⟩:ByteArray)] from rfl) (Ed.one (show Kd.M Kd.string _ _ _ (⟨#[60]⟩:ByteArray) [.string (⟨#[60]⟩:ByteArray)] from rfl) (Ed.one (show Kd.M Kd.string _ _ _ (⟨#[38]⟩:ByteArray) [.string (⟨#[38]⟩:ByteArray)] from rfl) (Ed.one (show Kd.M Kd.string _ _ _ (⟨#[43]⟩:ByteArray) [.string (⟨#[43]⟩:ByteArray)] from rfl) (Ed.one (show Kd.M Kd.string _ _ _ (⟨#[45]⟩:ByteArray) [.string (⟨#[45]⟩:ByteArray)] from rfl) (Ed.one (show Kd.M Kd.string _ _ _ (⟨#[42]⟩:ByteArray) [.string (⟨#[42]⟩:ByteArray)] from rfl) (Ed.none _ _))))))));intro jK w3 tS hb Vn yf;clear Vn yf;(first|rw [← nr.out] at tS|(simp only [Int.reduceToNat] at tS;rw [← nr.out] at tS));have Eb:=ja.mk (Kd.Qd tS (Ga (by repeat (first|(with_reducible first|exact HB.out|apply qa|apply ia|apply ta)|exact HB.out))));have Jb:=ja.mk (Na (by repeat (first|(with_reducible first|exact HB.out|apply qa|apply ia|apply ta)|exact HB.out)) hb);clear HB;have Ju:=Eb;have HB:=Jb;clear Eb Jb hb tS;obtain ⟨Ao5,co5,eo5⟩:=Kd.ze Ju.out;subst eo5)|((with_reducible refine mb (f:=126) rfl ?_);refine Mc (some 5) rfl rfl Try.func126 (by kernel_rfl) rfl #[.slice Ao5 zn.length co5,.string a0] rfl (by (try simp only [List.map_toArray,List.map_cons,List.map_nil]);first|done|rfl|(simp only [List.length_drop,List.length_take];rfl)) ?_;(with_reducible refine (Tc.calls k _ _ zn a0 t104 _ ?dc ?Zb A2.out).mono ?_);(case dc=>repeat (first|exact (Kd.Wc Ju.out).2.2|(with_reducible refine Kd.Bb ?_ _)|(with_reducible refine Kd.Ab ?_ _)|(with_reducible refine Kd.Qb ?_)));(case Zb=>exact (Kd.Wc Ju.out).2.1);rintro e w' ⟨rfl,⟨nd,rfl⟩⟩;refine ⟨_,rfl,?_⟩));go_ret;exact ⟨by first|rfl|(simp [Ma,La] <;> rfl)|(simp [*,Ma,La] <;> rfl),by repeat (first|(with_reducible first|exact HB.out|apply qa|apply ia|apply ta)|exact HB.out)⟩
theorem WI (g:Nat) (lb:Array Value) (p:Int→Bool) (eg:∀ args w,(callFunc g args).run Try.prog w = .ok (.enter g args) w) (A0:Option Addr) (c0:Nat) (l0:List Int) (w:World) (vm:Kd.C (Kd.int .i64) w A0 l0.length l0) (hc0:l0.length ≤ c0)
  (hp:∀ (W:World) (x:Int),Below w.heap.size w W→Calls Try.prog g (#[(.int .i64 x)] ++ lb) W fun e w'=>e = .returned (.bool (p x))∧Below W.heap.size W w') :
  Calls Try.prog 115 #[.slice A0 l0.length c0,.func (.func g) #[] lb] w fun e w'=>(∃ i:Int,e = .returned (.int .i64 i)∧decide (0 ≤ i)=l0.any p)∧Below w.heap.size w w':=by
 have hmx:=vm.2.1;have Xp:=ja.mk vm;have dK:=ja.mk hc0;have HP:=ja.mk hp;clear vm hc0 hp;go_enter Try.func115,Try.ntmps115;go_wp2
 go_loopg [5,8] l0.length (fun gg _ s8 wr=>∃ kk:Nat,kk ≤ l0.length∧l0.length - kk ≤ gg∧s8 = .int .i64 kk∧ja (Below w.heap.size w wr)∧ja ((l0.take kk).any p=false))
 case atStart=>exact ⟨0,Nat.zero_le _,by omega,rfl,⟨Below.refl _ w⟩,⟨by simp⟩⟩
 case round =>
  (try clear BW);(try clear HA);obtain ⟨kk,hkk,hg,rfl,BW,HA⟩:=hrel
  by_cases hlt:kk < l0.length
  ·have p1:0 ≤ (kk:Int):=by omega
   have q1:(kk:Int) < (l0.length:Int):=by omega
   obtain ⟨ad,e1,hx0⟩:=Kd.Zf Xp.out (kk:Int) p1 q1;cases e1;simp only [Int.toNat_natCast] at hx0;replace hx0:=(BW.out.cell (World.block_lt_of_cell? w _ hx0)).trans hx0;have Nr:=HP.out wr (rd l0 (kk:Int)) BW.out;cases hq:p (rd l0 (kk:Int)) with
   | true =>
    rw [hq] at Nr;go_wp2_with (go_at_fn g;refine Nr.mono ?_;rintro e w1 ⟨rfl,yA⟩);go_ret;exact ⟨⟨_,rfl,by rw [rP (d:=0) hlt hq];simp⟩,BW.out.trans (yA.mono BW.out.size)⟩
   | false =>
    rw [hq] at Nr;go_wp2_with (go_at_fn g;refine Nr.mono ?_;rintro e w1 ⟨rfl,yA⟩)
    go_roundg (l0.length - (kk + 1))
    case measure=>omega
    case rel=>exact ⟨kk + 1,by omega,by omega,by go_num,⟨BW.out.trans (yA.mono BW.out.size)⟩,⟨xw (d:=0) hlt HA.out hq⟩⟩
  ·have zam:¬ (kk:Int) < (l0.length:Int):=by omega
   have he:kk=l0.length:=by omega
   subst he;go_wp2;go_ret;exact ⟨⟨_,rfl,by have h_:=HA.out;rw [List.take_length] at h_;rw [h_];simp⟩,BW.out⟩
theorem zA (g:Nat) (lb:Array Value) (p:Int→Bool) (eg:∀ args w,(callFunc g args).run Try.prog w = .ok (.enter g args) w) (A0:Option Addr) (c0:Nat) (l0:List Int) (w:World) (vm:Kd.C (Kd.int .i64) w A0 l0.length l0) (hc0:l0.length ≤ c0)
  (hp:∀ (W:World) (x:Int),Below w.heap.size w W→Calls Try.prog g (#[(.int .i64 x)] ++ lb) W fun e w'=>e = .returned (.bool (p x))∧Below W.heap.size W w') :
  Calls Try.prog 99 #[.slice A0 l0.length c0,.func (.func g) #[] lb] w fun e w'=>e = .returned (.bool (l0.any p))∧Below w.heap.size w w':=by
 have HI:=ja.mk (WI g lb p eg A0 c0 l0 w vm hc0 hp);clear vm hc0 hp;go_enter Try.func99,Try.ntmps99;go_wp2_with (go_at_call 115;refine HI.out.mono ?_;rintro e w1 ⟨⟨i,rfl,hi⟩,yA⟩;have HD:=ja.mk hi;clear hi);go_ret;exact ⟨by rw [← HD.out];first|rfl|simp,yA⟩
def Pk (a b c:Int):Bool:=decide (b ≤ a) && decide (a ≤ c)
theorem Cl (a b c:Int) (w:World):Calls Try.prog 55 #[.int .i64 a,.int .i64 b,.int .i64 c] w fun e w'=>e = .returned (.bool (Pk a b c))∧Zc w w' :=
 Wf.calls a b c (Pk a b c) w (by
  unfold Wf.f Pk
  by_cases h:a ≥ b
  ·rw [if_pos h];have h':b ≤ a:=h;simp [h']
  ·rw [if_neg h];have h':¬ b ≤ a:=h
   simp [h'])
def Gw (l:List Int) (p v:Int):Bool:=Pk (l.length:Int) 1 4 && !(l.any fun n=>!Pk n 1 16) && Pk p 0 (if v < 6 then v else 6) && decide (v ≤ 20)
theorem SI (W:World) (x:Int):Calls Try.prog 100 #[.int .i64 x] W fun e w'=>e = .returned (.bool (!Pk x 1 16))∧Below W.heap.size W w':=by
 have HC:=ja.mk (Cl x 1 16);generalize Pk x 1 16=b at HC ⊢;go_enter Try.func100,Try.ntmps100;go_wp2_with (go_at_call 55;refine (HC.out _).mono ?_;rintro e w1 ⟨rfl,yA⟩;have HD:=ja.mk yA.below;clear yA);go_ret;exact ⟨rfl,HD.out⟩
theorem eI (p0 p1 p2 p3:Value) (A:Option Addr) (c:Nat) (w:World) :
  Calls Try.prog 101 #[.agg #[p0,p1,p2,p3],.slice A 0 c,.int .i64 0] w fun e w'=>e = .returned (.bool true)∧Below w.heap.size w w':=by
 go_enter Try.func101,Try.ntmps101;go_wp2
 go_loop [25] (fun i=>i = .int .i64 0) (fun _=>0)
 case atStart=>exact rfl
 case round =>
  obtain rfl:=hrel;go_wp2;go_ret;exact ⟨rfl,qa (qa (Below.refl _ _) _) _⟩
theorem kE (A0 A3:Option Addr) (c0 c3:Nat) (l0:List Int) (a1 a2:Int) (w:World) (vm:Kd.C (Kd.int .i64) w A0 l0.length l0) (hc0:l0.length ≤ c0) :
  Calls Try.prog 76 #[.agg #[.slice A0 l0.length c0,.int .i64 a1,.int .i64 a2,.slice A3 0 c3]] w fun e w'=>e = .returned (.bool (Gw l0 a1 a2))∧Below w.heap.size w w':=by
 have eg:=enters_of Try.func100 (by kernel_rfl) rfl;have hmx:=vm.2.1;have FI:=ja.mk (Cl (l0.length:Int) 1 4);have AU:=ja.mk (Cl a1 0 (if a2 < 6 then a2 else 6));have HF:=ja.mk (fun (W:World) (hb:Below w.heap.size w W)=>zA 100 #[] (fun n=>!Pk n 1 16) eg A0 c0 l0 W (Kd.Db vm hb) hc0 (fun W x _=>SI W x));clear vm hc0;unfold Gw
 by_cases h6:a2 < 6
 all_goals
  have hmin:min 6 a2=if a2 < 6 then a2 else 6:=by split <;> omega
  first|rw [if_pos h6] at AU hmin ⊢|rw [if_neg h6] at AU hmin ⊢
  cases yA:Pk (l0.length:Int) 1 4 with
  | false =>
   go_enter Try.func76,Try.ntmps76;go_wp2_with (first|(go_at_call 55;refine (Cl _ _ _ _).mono ?_;rintro e w1 ⟨rfl,⟨n,rfl⟩⟩));go_ret;exact ⟨rfl,ia (qa (Below.refl _ _) _) _⟩
  | true =>
   cases ni:(l0.any fun n=>!Pk n 1 16) with
   | true =>
    rw [ni] at HF;go_enter Try.func76,Try.ntmps76;go_wp2_with (first|(go_at_call 55;refine (Cl _ _ _ _).mono ?_;rintro e w1 ⟨rfl,⟨n,rfl⟩⟩)|(go_at_call 99;refine (HF.out _ (ia (qa (Below.refl _ _) _) _)).mono ?_;rintro e w1 ⟨rfl,hb⟩;have HB:=ja.mk (Na (ia (qa (Below.refl _ _) _) _) hb);clear hb));go_ret;exact ⟨rfl,HB.out⟩
   | false =>
    rw [ni] at HF;go_enter Try.func76,Try.ntmps76;go_wp2_with (first|(go_at_call 55;(with_reducible refine (Cl _ _ _ _).mono ?_);rintro e w1 ⟨rfl,⟨n,rfl⟩⟩)|(go_at_call 99;(with_reducible refine (HF.out _ (ia (qa (Below.refl _ _) _) _)).mono ?_);rintro e w1 ⟨rfl,hb⟩;have HB:=ja.mk (Na (ia (qa (Below.refl _ _) _) _) hb);obtain ⟨FX,tW⟩:=uZ hb;have zK:=hb.size;simp at zK;clear hb)|(go_at_call 101;(with_reducible refine (eI _ _ _ _ _ _ _).mono ?_);rintro e w2 ⟨rfl,hb⟩;have Nz:=ja.mk (Na (ia HB.out _) hb);clear hb))
    all_goals
     go_ret
     first
      | exact ⟨by simp [*],Nz.out⟩
      | exact ⟨by simp [*],ia HB.out _⟩
def Cg.f (Oa:List Int) (Ja:Int) (Fa:Int) (vK:List (GA)):Option Bool:=if vK.length=0 then some (Gw Oa Ja Fa) else none
theorem Cg.calls (Wa:Option Addr) (Ya:Nat) (Oa:List Int) (Ja:Int) (Fa:Int) (C6:Option Addr) (m4:Nat) (vK:List (GA)) (r:Bool) (w:World) (Ld:Kd.C (Kd.int .i64) w Wa Oa.length Oa) (Gd:Oa.length ≤ Ya) (Nap:Kd.C Aal w C6 vK.length vK) (xar:vK.length ≤ m4) (h:Cg.f Oa Ja Fa vK=some r) :
  Calls Try.prog 76 #[.agg #[.slice Wa Oa.length Ya,.int .i64 Ja,.int .i64 Fa,.slice C6 vK.length m4]] w fun e w'=>e = .returned (.bool r)∧Below w.heap.size w w':=by
 unfold Cg.f at h
 split at h
 ·rename_i h0;injection h with h
  subst h;rw [h0];exact kE Wa C6 Ya m4 Oa Ja Fa w Ld Gd
 ·cases h
theorem wab (d:Nat) (w:World) (x0 y0:Int) (x1 y1:Int) (x2 y2:Int) (x3 y3:Int) (x4 y4:Int) (x5 y5:Int) (x6 y6:ByteArray) :
  (Op.equalIn (d + 2) 65 (.agg #[.int .i64 x0,.int .i64 x1,.int .i64 x2,.int .i64 x3,.int .i64 x4,.int .i64 x5,.string x6]) (.agg #[.int .i64 y0,.int .i64 y1,.int .i64 y2,.int .i64 y3,.int .i64 y4,.int .i64 y5,.string y6])).run Try.prog w = .ok (x0 == y0 && (x1 == y1 && (x2 == y2 && (x3 == y3 && (x4 == y4 && (x5 == y5 && (x6.toList == y6.toList))))))) w:=by
 refine T2 Try.underlying65 (by kernel_rfl) ?_;refine Pr (by rfl) (by go_simp;rfl) (by go_simp;rfl) (by go_simp) ?_;refine Pr (by rfl) (by go_simp;rfl) (by go_simp;rfl) (by go_simp) ?_;refine Pr (by rfl) (by go_simp;rfl) (by go_simp;rfl) (by go_simp) ?_;refine Pr (by rfl) (by go_simp;rfl) (by go_simp;rfl) (by go_simp) ?_;refine Pr (by rfl) (by go_simp;rfl) (by go_simp;rfl) (by go_simp) ?_;refine Pr (by rfl) (by go_simp;rfl) (by go_simp;rfl) (by go_simp) ?_;exact US (by rfl) (by go_simp;rfl) (by go_simp;rfl) (by go_simp)
attribute [local go_sem high] wab
def nK:List ByteArray:=[⟨#[61,61]⟩,⟨#[60]⟩,⟨#[38]⟩,⟨#[43]⟩,⟨#[45]⟩,⟨#[42]⟩]
def dx (s:ByteArray):Bool:=nK.any fun y=>decide (s.toList=y.toList)
theorem qQ (s:ByteArray):Gn.f 8 s=some (dx s):=by
 unfold Gn.f Tc.f Kb.f dx nK;simp only [Kb.l0,List.any_cons,List.any_nil]
 by_cases h0:s.toList=[61,61]
 ·simp [Pf,h0]
 by_cases h1:s.toList=[60]
 ·simp [Pf,h1,wrap64]
 by_cases h2:s.toList=[38]
 ·simp [Pf,h2,wrap64]
 by_cases h3:s.toList=[43]
 ·simp [Pf,h3,wrap64]
 by_cases h4:s.toList=[45]
 ·simp [Pf,h4,wrap64]
 by_cases h5:s.toList=[42]
 ·simp [Pf,h5,wrap64]
 simp [Pf,h0,h1,h2,h3,h4,h5,wrap64]
theorem wK (s:ByteArray) (w:World):Calls Try.prog 122 #[.string s] w fun e w'=>e = .returned (.bool (dx s))∧Below w.heap.size w w':=Gn.calls 8 s (dx s) w (qQ s)
def Lk (slots s:Int):Bool:=decide (0 ≤ s) && decide (s < slots)
theorem ck (B:Nat) (slots s:Int) (W:World) (hb3:W.cell? ⟨B,3,none⟩=some (.int .i64 slots)):Calls Try.prog 121 #[.int .i64 s,.pointer (some ⟨B,0,none⟩)] W fun e w'=>e = .returned (.bool (Lk slots s))∧W=w':=by
 unfold Lk
 by_cases h:0 ≤ s
 all_goals
  go_enter Try.func121,Try.ntmps121;go_wp2;go_ret;exact ⟨by simp [*];try omega,rfl⟩
theorem xQ (A0 A4:Option Addr) (c0 c4 n0 n4:Nat) (p1 p2 slots d a b c n:Int) (t:ByteArray) (w:World) (hn0:n0 ≤ 9223372036854775807) (VE:n4 ≤ 9223372036854775807) :
  Calls Try.prog 104 #[.agg #[.slice A0 n0 c0,.int .i64 p1,.int .i64 p2,.int .i64 slots,.slice A4 n4 c4],.agg #[.int .i64 0,.int .i64 d,.int .i64 a,.int .i64 b,.int .i64 c,.int .i64 n,.string t]] w fun e w'=>e = .returned (.bool (Lk slots d && (a == 0 && (b == 0 && (c == 0 && t.toList.isEmpty)))))∧Below w.heap.size w w':=by
 obtain ⟨W1,bg⟩:∃ W1,W1=(w.alloc (.cells #[.slice A0 n0 c0,.int .i64 p1,.int .i64 p2,.int .i64 slots,.slice A4 n4 c4] 30 (0,0))).alloc (.cells #[.int .i64 0,.int .i64 d,.int .i64 a,.int .i64 b,.int .i64 c,.int .i64 n,.string t] 65 (0,0)):=⟨_,rfl⟩;have HW:=ja.mk bg;have HB:=ja.mk (show Below w.heap.size w W1 from by rw [bg];exact qa (qa (Below.refl _ _) _) _);have hz:W1.heap.size=w.heap.size + 2:=by rw [bg];simp
 have XD:W1.cell? ⟨w.heap.size,3,none⟩=some (.int .i64 slots):=by rw [bg];simp
 have hx0:W1.cell? ⟨w.heap.size + 1,0,none⟩=some (.int .i64 0):=by rw [bg];simp
 have hx1:W1.cell? ⟨w.heap.size + 1,1,none⟩=some (.int .i64 d):=by rw [bg];simp
 have Xw:W1.cell? ⟨w.heap.size + 1,2,none⟩=some (.int .i64 a):=by rw [bg];simp
 have Lr:W1.cell? ⟨w.heap.size + 1,3,none⟩=some (.int .i64 b):=by rw [bg];simp
 have Hs:W1.cell? ⟨w.heap.size + 1,4,none⟩=some (.int .i64 c):=by rw [bg];simp
 have CM:W1.cell? ⟨w.heap.size + 1,5,none⟩=some (.int .i64 n):=by rw [bg];simp
 have BM:W1.cell? ⟨w.heap.size + 1,6,none⟩=some (.string t):=by rw [bg];simp
 clear bg;go_enter Try.func104,Try.ntmps104;go_wp2_with (first|(go_at_call 55;(with_reducible refine (Cl _ _ _ _).mono ?_);rintro e w1 ⟨rfl,⟨k1,rfl⟩⟩));rw [← HW.out];clear HW
 go_region
 all_goals go_wp2_with (first|(go_at_call 121;(refine (ck _ slots _ _ ?hc).mono ?_);(case hc=>first|(go_simp;done)|(go_simp;rfl));rintro e w1 ⟨rfl,rfl⟩))
 all_goals go_ret
 all_goals exact ⟨by (try clear FX tW zK Nz);simp [*],by repeat (first|exact HB.out|(refine Na ?_ Nz.out)|apply ia|apply ta|apply qa|refine ua ?_ (by first|omega|(simp;done)|(simp;omega)))⟩
theorem wQ (A0 A4:Option Addr) (c0 c4 n0 n4:Nat) (p1 p2 slots d a b c n:Int) (t:ByteArray) (w:World) (hn0:n0 ≤ 9223372036854775807) (VE:n4 ≤ 9223372036854775807) :
  Calls Try.prog 104 #[.agg #[.slice A0 n0 c0,.int .i64 p1,.int .i64 p2,.int .i64 slots,.slice A4 n4 c4],.agg #[.int .i64 1,.int .i64 d,.int .i64 a,.int .i64 b,.int .i64 c,.int .i64 n,.string t]] w fun e w'=>e = .returned (.bool (Lk slots d && Lk slots a && (b == 0 && (c == 0 && (n == 0 && t.toList.isEmpty)))))∧Below w.heap.size w w':=by
 obtain ⟨W1,bg⟩:∃ W1,W1=(w.alloc (.cells #[.slice A0 n0 c0,.int .i64 p1,.int .i64 p2,.int .i64 slots,.slice A4 n4 c4] 30 (0,0))).alloc (.cells #[.int .i64 1,.int .i64 d,.int .i64 a,.int .i64 b,.int .i64 c,.int .i64 n,.string t] 65 (0,0)):=⟨_,rfl⟩;have HW:=ja.mk bg;have HB:=ja.mk (show Below w.heap.size w W1 from by rw [bg];exact qa (qa (Below.refl _ _) _) _);have hz:W1.heap.size=w.heap.size + 2:=by rw [bg];simp
 have XD:W1.cell? ⟨w.heap.size,3,none⟩=some (.int .i64 slots):=by rw [bg];simp
 have hx0:W1.cell? ⟨w.heap.size + 1,0,none⟩=some (.int .i64 1):=by rw [bg];simp
 have hx1:W1.cell? ⟨w.heap.size + 1,1,none⟩=some (.int .i64 d):=by rw [bg];simp
 have Xw:W1.cell? ⟨w.heap.size + 1,2,none⟩=some (.int .i64 a):=by rw [bg];simp
 have Lr:W1.cell? ⟨w.heap.size + 1,3,none⟩=some (.int .i64 b):=by rw [bg];simp
 have Hs:W1.cell? ⟨w.heap.size + 1,4,none⟩=some (.int .i64 c):=by rw [bg];simp
 have CM:W1.cell? ⟨w.heap.size + 1,5,none⟩=some (.int .i64 n):=by rw [bg];simp
 have BM:W1.cell? ⟨w.heap.size + 1,6,none⟩=some (.string t):=by rw [bg];simp
 clear bg;go_enter Try.func104,Try.ntmps104;go_wp2_with (first|(go_at_call 55;(with_reducible refine (Cl _ _ _ _).mono ?_);rintro e w1 ⟨rfl,⟨k1,rfl⟩⟩));rw [← HW.out];clear HW
 go_region
 all_goals go_wp2_with (first|(go_at_call 121;(refine (ck _ slots _ _ ?hc).mono ?_);(case hc=>first|(go_simp;done)|(go_simp;rfl));rintro e w1 ⟨rfl,rfl⟩))
 all_goals go_ret
 all_goals exact ⟨by (try clear FX tW zK Nz);simp [*],by repeat (first|exact HB.out|(refine Na ?_ Nz.out)|apply ia|apply ta|apply qa|refine ua ?_ (by first|omega|(simp;done)|(simp;omega)))⟩
theorem vQ (A0 A4:Option Addr) (c0 c4 n0 n4:Nat) (p1 p2 slots d a b c n:Int) (t:ByteArray) (w:World) (hn0:n0 ≤ 9223372036854775807) (VE:n4 ≤ 9223372036854775807) :
  Calls Try.prog 104 #[.agg #[.slice A0 n0 c0,.int .i64 p1,.int .i64 p2,.int .i64 slots,.slice A4 n4 c4],.agg #[.int .i64 2,.int .i64 d,.int .i64 a,.int .i64 b,.int .i64 c,.int .i64 n,.string t]] w fun e w'=>e = .returned (.bool (Lk slots d && Lk slots a && Lk slots b && dx t && (c == 0 && n == 0)))∧Below w.heap.size w w':=by
 obtain ⟨W1,bg⟩:∃ W1,W1=(w.alloc (.cells #[.slice A0 n0 c0,.int .i64 p1,.int .i64 p2,.int .i64 slots,.slice A4 n4 c4] 30 (0,0))).alloc (.cells #[.int .i64 2,.int .i64 d,.int .i64 a,.int .i64 b,.int .i64 c,.int .i64 n,.string t] 65 (0,0)):=⟨_,rfl⟩;have HW:=ja.mk bg;have HB:=ja.mk (show Below w.heap.size w W1 from by rw [bg];exact qa (qa (Below.refl _ _) _) _);have hz:W1.heap.size=w.heap.size + 2:=by rw [bg];simp
 have XD:W1.cell? ⟨w.heap.size,3,none⟩=some (.int .i64 slots):=by rw [bg];simp
 have hx0:W1.cell? ⟨w.heap.size + 1,0,none⟩=some (.int .i64 2):=by rw [bg];simp
 have hx1:W1.cell? ⟨w.heap.size + 1,1,none⟩=some (.int .i64 d):=by rw [bg];simp
 have Xw:W1.cell? ⟨w.heap.size + 1,2,none⟩=some (.int .i64 a):=by rw [bg];simp
 have Lr:W1.cell? ⟨w.heap.size + 1,3,none⟩=some (.int .i64 b):=by rw [bg];simp
 have Hs:W1.cell? ⟨w.heap.size + 1,4,none⟩=some (.int .i64 c):=by rw [bg];simp
 have CM:W1.cell? ⟨w.heap.size + 1,5,none⟩=some (.int .i64 n):=by rw [bg];simp
 have BM:W1.cell? ⟨w.heap.size + 1,6,none⟩=some (.string t):=by rw [bg];simp
 clear bg;go_enter Try.func104,Try.ntmps104;go_wp2_with (first|(go_at_call 55;(with_reducible refine (Cl _ _ _ _).mono ?_);rintro e w1 ⟨rfl,⟨k1,rfl⟩⟩));rw [← HW.out];clear HW
 go_region
 all_goals go_wp2_with (first|(go_at_call 121;(refine (ck _ slots _ _ ?hc).mono ?_);(case hc=>first|(go_simp;done)|(go_simp;rfl));rintro e w1 ⟨rfl,rfl⟩)|(go_at_call 122;(with_reducible refine (wK _ _).mono ?_);rintro e w2 ⟨rfl,ni⟩;have Nz:=ja.mk ni;obtain ⟨FX,tW⟩:=uZ ni;have zK:=ni.size;simp at zK;clear ni))
 all_goals go_ret
 all_goals exact ⟨by (try clear FX tW zK Nz);simp [*],by repeat (first|exact HB.out|(refine Na ?_ Nz.out)|apply ia|apply ta|apply qa|refine ua ?_ (by first|omega|(simp;done)|(simp;omega)))⟩
theorem uQ (A0 A4:Option Addr) (c0 c4 n0 n4:Nat) (p1 p2 slots d a b c n:Int) (t:ByteArray) (w:World) (hn0:n0 ≤ 9223372036854775807) (VE:n4 ≤ 9223372036854775807) :
  Calls Try.prog 104 #[.agg #[.slice A0 n0 c0,.int .i64 p1,.int .i64 p2,.int .i64 slots,.slice A4 n4 c4],.agg #[.int .i64 3,.int .i64 d,.int .i64 a,.int .i64 b,.int .i64 c,.int .i64 n,.string t]] w fun e w'=>e = .returned (.bool (Lk slots d && Lk slots b && Pk n 0 ((n0:Int) - 1) && (Lk slots a || a == -1) && (c == 0 && t.toList.isEmpty)))∧Below w.heap.size w w':=by
 obtain ⟨W1,bg⟩:∃ W1,W1=(w.alloc (.cells #[.slice A0 n0 c0,.int .i64 p1,.int .i64 p2,.int .i64 slots,.slice A4 n4 c4] 30 (0,0))).alloc (.cells #[.int .i64 3,.int .i64 d,.int .i64 a,.int .i64 b,.int .i64 c,.int .i64 n,.string t] 65 (0,0)):=⟨_,rfl⟩;have HW:=ja.mk bg;have HB:=ja.mk (show Below w.heap.size w W1 from by rw [bg];exact qa (qa (Below.refl _ _) _) _);have hz:W1.heap.size=w.heap.size + 2:=by rw [bg];simp
 have XD:W1.cell? ⟨w.heap.size,3,none⟩=some (.int .i64 slots):=by rw [bg];simp
 have hx0:W1.cell? ⟨w.heap.size + 1,0,none⟩=some (.int .i64 3):=by rw [bg];simp
 have hx1:W1.cell? ⟨w.heap.size + 1,1,none⟩=some (.int .i64 d):=by rw [bg];simp
 have Xw:W1.cell? ⟨w.heap.size + 1,2,none⟩=some (.int .i64 a):=by rw [bg];simp
 have Lr:W1.cell? ⟨w.heap.size + 1,3,none⟩=some (.int .i64 b):=by rw [bg];simp
 have Hs:W1.cell? ⟨w.heap.size + 1,4,none⟩=some (.int .i64 c):=by rw [bg];simp
 have CM:W1.cell? ⟨w.heap.size + 1,5,none⟩=some (.int .i64 n):=by rw [bg];simp
 have BM:W1.cell? ⟨w.heap.size + 1,6,none⟩=some (.string t):=by rw [bg];simp
 clear bg;go_enter Try.func104,Try.ntmps104;go_wp2_with (first|(go_at_call 55;(with_reducible refine (Cl _ _ _ _).mono ?_);rintro e w1 ⟨rfl,⟨k1,rfl⟩⟩));rw [← HW.out];clear HW
 go_region
 all_goals go_wp2_with (first|(go_at_call 121;(refine (ck _ slots _ _ ?hc).mono ?_);(case hc=>first|(go_simp;done)|(go_simp;rfl));rintro e w1 ⟨rfl,rfl⟩))
 all_goals go_ret
 all_goals exact ⟨by (try clear FX tW zK Nz);simp [*],by repeat (first|exact HB.out|(refine Na ?_ Nz.out)|apply ia|apply ta|apply qa|refine ua ?_ (by first|omega|(simp;done)|(simp;omega)))⟩
theorem tQ (A0 A4:Option Addr) (c0 c4 n0 n4:Nat) (p1 p2 slots d a b c n:Int) (t:ByteArray) (w:World) (hn0:n0 ≤ 9223372036854775807) (VE:n4 ≤ 9223372036854775807) :
  Calls Try.prog 104 #[.agg #[.slice A0 n0 c0,.int .i64 p1,.int .i64 p2,.int .i64 slots,.slice A4 n4 c4],.agg #[.int .i64 4,.int .i64 d,.int .i64 a,.int .i64 b,.int .i64 c,.int .i64 n,.string t]] w fun e w'=>e = .returned (.bool (Lk slots c && Lk slots b && Pk n 0 ((n0:Int) - 1) && (Lk slots a || a == -1) && (d == 0 && t.toList.isEmpty)))∧Below w.heap.size w w':=by
 obtain ⟨W1,bg⟩:∃ W1,W1=(w.alloc (.cells #[.slice A0 n0 c0,.int .i64 p1,.int .i64 p2,.int .i64 slots,.slice A4 n4 c4] 30 (0,0))).alloc (.cells #[.int .i64 4,.int .i64 d,.int .i64 a,.int .i64 b,.int .i64 c,.int .i64 n,.string t] 65 (0,0)):=⟨_,rfl⟩;have HW:=ja.mk bg;have HB:=ja.mk (show Below w.heap.size w W1 from by rw [bg];exact qa (qa (Below.refl _ _) _) _);have hz:W1.heap.size=w.heap.size + 2:=by rw [bg];simp
 have XD:W1.cell? ⟨w.heap.size,3,none⟩=some (.int .i64 slots):=by rw [bg];simp
 have hx0:W1.cell? ⟨w.heap.size + 1,0,none⟩=some (.int .i64 4):=by rw [bg];simp
 have hx1:W1.cell? ⟨w.heap.size + 1,1,none⟩=some (.int .i64 d):=by rw [bg];simp
 have Xw:W1.cell? ⟨w.heap.size + 1,2,none⟩=some (.int .i64 a):=by rw [bg];simp
 have Lr:W1.cell? ⟨w.heap.size + 1,3,none⟩=some (.int .i64 b):=by rw [bg];simp
 have Hs:W1.cell? ⟨w.heap.size + 1,4,none⟩=some (.int .i64 c):=by rw [bg];simp
 have CM:W1.cell? ⟨w.heap.size + 1,5,none⟩=some (.int .i64 n):=by rw [bg];simp
 have BM:W1.cell? ⟨w.heap.size + 1,6,none⟩=some (.string t):=by rw [bg];simp
 clear bg;go_enter Try.func104,Try.ntmps104;go_wp2_with (first|(go_at_call 55;(with_reducible refine (Cl _ _ _ _).mono ?_);rintro e w1 ⟨rfl,⟨k1,rfl⟩⟩));rw [← HW.out];clear HW
 go_region
 all_goals go_wp2_with (first|(go_at_call 121;(refine (ck _ slots _ _ ?hc).mono ?_);(case hc=>first|(go_simp;done)|(go_simp;rfl));rintro e w1 ⟨rfl,rfl⟩))
 all_goals go_ret
 all_goals exact ⟨by (try clear FX tW zK Nz);simp [*],by repeat (first|exact HB.out|(refine Na ?_ Nz.out)|apply ia|apply ta|apply qa|refine ua ?_ (by first|omega|(simp;done)|(simp;omega)))⟩
theorem sQ (A0 A4:Option Addr) (c0 c4 n0 n4:Nat) (p1 p2 slots d a b c n:Int) (t:ByteArray) (w:World) (hn0:n0 ≤ 9223372036854775807) (VE:n4 ≤ 9223372036854775807) :
  Calls Try.prog 104 #[.agg #[.slice A0 n0 c0,.int .i64 p1,.int .i64 p2,.int .i64 slots,.slice A4 n4 c4],.agg #[.int .i64 5,.int .i64 d,.int .i64 a,.int .i64 b,.int .i64 c,.int .i64 n,.string t]] w fun e w'=>e = .returned (.bool (Lk slots d && (a == 0 && (b == 0 && (c == 0 && (n == 0 && t.toList.isEmpty))))))∧Below w.heap.size w w':=by
 obtain ⟨W1,bg⟩:∃ W1,W1=(w.alloc (.cells #[.slice A0 n0 c0,.int .i64 p1,.int .i64 p2,.int .i64 slots,.slice A4 n4 c4] 30 (0,0))).alloc (.cells #[.int .i64 5,.int .i64 d,.int .i64 a,.int .i64 b,.int .i64 c,.int .i64 n,.string t] 65 (0,0)):=⟨_,rfl⟩;have HW:=ja.mk bg;have HB:=ja.mk (show Below w.heap.size w W1 from by rw [bg];exact qa (qa (Below.refl _ _) _) _);have hz:W1.heap.size=w.heap.size + 2:=by rw [bg];simp
 have XD:W1.cell? ⟨w.heap.size,3,none⟩=some (.int .i64 slots):=by rw [bg];simp
 have hx0:W1.cell? ⟨w.heap.size + 1,0,none⟩=some (.int .i64 5):=by rw [bg];simp
 have hx1:W1.cell? ⟨w.heap.size + 1,1,none⟩=some (.int .i64 d):=by rw [bg];simp
 have Xw:W1.cell? ⟨w.heap.size + 1,2,none⟩=some (.int .i64 a):=by rw [bg];simp
 have Lr:W1.cell? ⟨w.heap.size + 1,3,none⟩=some (.int .i64 b):=by rw [bg];simp
 have Hs:W1.cell? ⟨w.heap.size + 1,4,none⟩=some (.int .i64 c):=by rw [bg];simp
 have CM:W1.cell? ⟨w.heap.size + 1,5,none⟩=some (.int .i64 n):=by rw [bg];simp
 have BM:W1.cell? ⟨w.heap.size + 1,6,none⟩=some (.string t):=by rw [bg];simp
 clear bg;go_enter Try.func104,Try.ntmps104;go_wp2_with (first|(go_at_call 55;(with_reducible refine (Cl _ _ _ _).mono ?_);rintro e w1 ⟨rfl,⟨k1,rfl⟩⟩));rw [← HW.out];clear HW
 go_region
 all_goals go_wp2_with (first|(go_at_call 121;(refine (ck _ slots _ _ ?hc).mono ?_);(case hc=>first|(go_simp;done)|(go_simp;rfl));rintro e w1 ⟨rfl,rfl⟩))
 all_goals go_ret
 all_goals exact ⟨by (try clear FX tW zK Nz);simp [*],by repeat (first|exact HB.out|(refine Na ?_ Nz.out)|apply ia|apply ta|apply qa|refine ua ?_ (by first|omega|(simp;done)|(simp;omega)))⟩
theorem rQ (A0 A4:Option Addr) (c0 c4 n0 n4:Nat) (p1 p2 slots d a b c n:Int) (t:ByteArray) (w:World) (hn0:n0 ≤ 9223372036854775807) (VE:n4 ≤ 9223372036854775807) :
  Calls Try.prog 104 #[.agg #[.slice A0 n0 c0,.int .i64 p1,.int .i64 p2,.int .i64 slots,.slice A4 n4 c4],.agg #[.int .i64 6,.int .i64 d,.int .i64 a,.int .i64 b,.int .i64 c,.int .i64 n,.string t]] w fun e w'=>e = .returned (.bool (Lk slots a && (d == 0 && (b == 0 && (c == 0 && (n == 0 && t.toList.isEmpty))))))∧Below w.heap.size w w':=by
 obtain ⟨W1,bg⟩:∃ W1,W1=(w.alloc (.cells #[.slice A0 n0 c0,.int .i64 p1,.int .i64 p2,.int .i64 slots,.slice A4 n4 c4] 30 (0,0))).alloc (.cells #[.int .i64 6,.int .i64 d,.int .i64 a,.int .i64 b,.int .i64 c,.int .i64 n,.string t] 65 (0,0)):=⟨_,rfl⟩;have HW:=ja.mk bg;have HB:=ja.mk (show Below w.heap.size w W1 from by rw [bg];exact qa (qa (Below.refl _ _) _) _);have hz:W1.heap.size=w.heap.size + 2:=by rw [bg];simp
 have XD:W1.cell? ⟨w.heap.size,3,none⟩=some (.int .i64 slots):=by rw [bg];simp
 have hx0:W1.cell? ⟨w.heap.size + 1,0,none⟩=some (.int .i64 6):=by rw [bg];simp
 have hx1:W1.cell? ⟨w.heap.size + 1,1,none⟩=some (.int .i64 d):=by rw [bg];simp
 have Xw:W1.cell? ⟨w.heap.size + 1,2,none⟩=some (.int .i64 a):=by rw [bg];simp
 have Lr:W1.cell? ⟨w.heap.size + 1,3,none⟩=some (.int .i64 b):=by rw [bg];simp
 have Hs:W1.cell? ⟨w.heap.size + 1,4,none⟩=some (.int .i64 c):=by rw [bg];simp
 have CM:W1.cell? ⟨w.heap.size + 1,5,none⟩=some (.int .i64 n):=by rw [bg];simp
 have BM:W1.cell? ⟨w.heap.size + 1,6,none⟩=some (.string t):=by rw [bg];simp
 clear bg;go_enter Try.func104,Try.ntmps104;go_wp2_with (first|(go_at_call 55;(with_reducible refine (Cl _ _ _ _).mono ?_);rintro e w1 ⟨rfl,⟨k1,rfl⟩⟩));rw [← HW.out];clear HW
 go_region
 all_goals go_wp2_with (first|(go_at_call 121;(refine (ck _ slots _ _ ?hc).mono ?_);(case hc=>first|(go_simp;done)|(go_simp;rfl));rintro e w1 ⟨rfl,rfl⟩))
 all_goals go_ret
 all_goals exact ⟨by (try clear FX tW zK Nz);simp [*],by repeat (first|exact HB.out|(refine Na ?_ Nz.out)|apply ia|apply ta|apply qa|refine ua ?_ (by first|omega|(simp;done)|(simp;omega)))⟩
theorem xK (A0 A4:Option Addr) (c0 c4 n0 n4:Nat) (p1 p2 slots d a b c n:Int) (t:ByteArray) (w:World) (hn0:n0 ≤ 9223372036854775807) (VE:n4 ≤ 9223372036854775807) (o:Int) (h0:(o == 0)=false) (h1:(o == 1)=false) (h2:(o == 2)=false) (h3:(o == 3)=false) (h4:(o == 4)=false) (h5:(o == 5)=false) (h6:(o == 6)=false) :
  Calls Try.prog 104 #[.agg #[.slice A0 n0 c0,.int .i64 p1,.int .i64 p2,.int .i64 slots,.slice A4 n4 c4],.agg #[.int .i64 o,.int .i64 d,.int .i64 a,.int .i64 b,.int .i64 c,.int .i64 n,.string t]] w fun e w'=>e = .returned (.bool (false))∧Below w.heap.size w w':=by
 obtain ⟨W1,bg⟩:∃ W1,W1=(w.alloc (.cells #[.slice A0 n0 c0,.int .i64 p1,.int .i64 p2,.int .i64 slots,.slice A4 n4 c4] 30 (0,0))).alloc (.cells #[.int .i64 o,.int .i64 d,.int .i64 a,.int .i64 b,.int .i64 c,.int .i64 n,.string t] 65 (0,0)):=⟨_,rfl⟩;have HW:=ja.mk bg;have HB:=ja.mk (show Below w.heap.size w W1 from by rw [bg];exact qa (qa (Below.refl _ _) _) _);have hz:W1.heap.size=w.heap.size + 2:=by rw [bg];simp
 have XD:W1.cell? ⟨w.heap.size,3,none⟩=some (.int .i64 slots):=by rw [bg];simp
 have hx0:W1.cell? ⟨w.heap.size + 1,0,none⟩=some (.int .i64 o):=by rw [bg];simp
 have hx1:W1.cell? ⟨w.heap.size + 1,1,none⟩=some (.int .i64 d):=by rw [bg];simp
 have Xw:W1.cell? ⟨w.heap.size + 1,2,none⟩=some (.int .i64 a):=by rw [bg];simp
 have Lr:W1.cell? ⟨w.heap.size + 1,3,none⟩=some (.int .i64 b):=by rw [bg];simp
 have Hs:W1.cell? ⟨w.heap.size + 1,4,none⟩=some (.int .i64 c):=by rw [bg];simp
 have CM:W1.cell? ⟨w.heap.size + 1,5,none⟩=some (.int .i64 n):=by rw [bg];simp
 have BM:W1.cell? ⟨w.heap.size + 1,6,none⟩=some (.string t):=by rw [bg];simp
 clear bg;go_enter Try.func104,Try.ntmps104;go_wp2_with (first|(go_at_call 55;(with_reducible refine (Cl _ _ _ _).mono ?_);rintro e w1 ⟨rfl,⟨k1,rfl⟩⟩));rw [← HW.out];clear HW
 go_region
 all_goals go_wp2_with (first|(go_at_call 121;(refine (ck _ slots _ _ ?hc).mono ?_);(case hc=>first|(go_simp;done)|(go_simp;rfl));rintro e w1 ⟨rfl,rfl⟩))
 all_goals go_ret
 all_goals exact ⟨by (try clear FX tW zK Nz);simp [*],by repeat (first|exact HB.out|(refine Na ?_ Nz.out)|apply ia|apply ta|apply qa|refine ua ?_ (by first|omega|(simp;done)|(simp;omega)))⟩
def Vl (n0:Nat) (slots:Int) (o d a b c n:Int) (t:ByteArray):Bool :=
 if o=0 then Lk slots d && (a == 0 && (b == 0 && (c == 0 && t.toList.isEmpty)))
 else if o=1 then Lk slots d && Lk slots a && (b == 0 && (c == 0 && (n == 0 && t.toList.isEmpty)))
 else if o=2 then Lk slots d && Lk slots a && Lk slots b && dx t && (c == 0 && n == 0)
 else if o=3 then Lk slots d && Lk slots b && Pk n 0 ((n0:Int) - 1) && (Lk slots a || a == -1) && (c == 0 && t.toList.isEmpty)
 else if o=4 then Lk slots c && Lk slots b && Pk n 0 ((n0:Int) - 1) && (Lk slots a || a == -1) && (d == 0 && t.toList.isEmpty)
 else if o=5 then Lk slots d && (a == 0 && (b == 0 && (c == 0 && (n == 0 && t.toList.isEmpty))))
 else if o=6 then Lk slots a && (d == 0 && (b == 0 && (c == 0 && (n == 0 && t.toList.isEmpty))))
 else false
theorem TI (A0 A4:Option Addr) (c0 c4 n0 n4:Nat) (p1 p2 slots:Int) (w:World) (hn0:n0 ≤ 9223372036854775807) (VE:n4 ≤ 9223372036854775807) (o d a b c n:Int) (t:ByteArray) :
  Calls Try.prog 104 #[.agg #[.slice A0 n0 c0,.int .i64 p1,.int .i64 p2,.int .i64 slots,.slice A4 n4 c4],.agg #[.int .i64 o,.int .i64 d,.int .i64 a,.int .i64 b,.int .i64 c,.int .i64 n,.string t]] w fun e w'=>e = .returned (.bool (Vl n0 slots o d a b c n t))∧Below w.heap.size w w':=by
 unfold Vl
 by_cases h0:o=0
 ·rw [if_pos h0,h0];exact xQ A0 A4 c0 c4 n0 n4 p1 p2 slots d a b c n t w hn0 VE
 rw [if_neg h0]
 by_cases h1:o=1
 ·rw [if_pos h1,h1];exact wQ A0 A4 c0 c4 n0 n4 p1 p2 slots d a b c n t w hn0 VE
 rw [if_neg h1]
 by_cases h2:o=2
 ·rw [if_pos h2,h2];exact vQ A0 A4 c0 c4 n0 n4 p1 p2 slots d a b c n t w hn0 VE
 rw [if_neg h2]
 by_cases h3:o=3
 ·rw [if_pos h3,h3];exact uQ A0 A4 c0 c4 n0 n4 p1 p2 slots d a b c n t w hn0 VE
 rw [if_neg h3]
 by_cases h4:o=4
 ·rw [if_pos h4,h4];exact tQ A0 A4 c0 c4 n0 n4 p1 p2 slots d a b c n t w hn0 VE
 rw [if_neg h4]
 by_cases h5:o=5
 ·rw [if_pos h5,h5];exact sQ A0 A4 c0 c4 n0 n4 p1 p2 slots d a b c n t w hn0 VE
 rw [if_neg h5]
 by_cases h6:o=6
 ·rw [if_pos h6,h6];exact rQ A0 A4 c0 c4 n0 n4 p1 p2 slots d a b c n t w hn0 VE
 rw [if_neg h6];exact xK A0 A4 c0 c4 n0 n4 p1 p2 slots d a b c n t w hn0 VE o (beq_eq_false_iff_ne.mpr h0) (beq_eq_false_iff_ne.mpr h1) (beq_eq_false_iff_ne.mpr h2) (beq_eq_false_iff_ne.mpr h3) (beq_eq_false_iff_ne.mpr h4) (beq_eq_false_iff_ne.mpr h5) (beq_eq_false_iff_ne.mpr h6)
def Wm (n0:Nat) (slots:Int) (x:lg):Bool:=Vl n0 slots x.f0 x.f1 x.f2 x.f3 x.f4 x.f5 x.f6
def Uj (n0:Nat) (slots:Int) (n4:Nat) (code:List lg) (j a tg els:Int):Bool :=
 !(code.any fun x=>!Wm n0 slots x) && decide (0 ≤ slots) &&
  (if j=0 then Pk tg 0 ((n4:Int) - 1) && a == 0 && els == 0
   else if j=1 then Pk tg 0 ((n4:Int) - 1) && Pk els 0 ((n4:Int) - 1) && Lk slots a
   else if j=2 then Lk slots a && tg == 0 && els == 0
   else false)
theorem yQ (B:Nat) (A0 A4:Option Addr) (c0 c4 n0 n4:Nat) (p1 p2 slots:Int) (hn0:n0 ≤ 9223372036854775807) (VE:n4 ≤ 9223372036854775807) (W:World) (x:lg)
  (hb0:W.cell? ⟨B,0,none⟩=some (.slice A0 n0 c0)) (yA:W.cell? ⟨B,1,none⟩=some (.int .i64 p1)) (ni:W.cell? ⟨B,2,none⟩=some (.int .i64 p2)) (hb3:W.cell? ⟨B,3,none⟩=some (.int .i64 slots)) (hb4:W.cell? ⟨B,4,none⟩=some (.slice A4 n4 c4)) (hB:B < W.heap.size) :
  Calls Try.prog 103 #[.agg #[.int .i64 x.f0,.int .i64 x.f1,.int .i64 x.f2,.int .i64 x.f3,.int .i64 x.f4,.int .i64 x.f5,.string x.f6],.pointer (some ⟨B,0,none⟩)] W
   fun e w'=>e = .returned (.bool (!Wm n0 slots x))∧Below W.heap.size W w':=by
 have hne:B ≠ W.heap.size:=by omega
 unfold Wm;have HC:=ja.mk (fun W'=>TI A0 A4 c0 c4 n0 n4 p1 p2 slots W' hn0 VE x.f0 x.f1 x.f2 x.f3 x.f4 x.f5 x.f6);generalize Vl n0 slots x.f0 x.f1 x.f2 x.f3 x.f4 x.f5 x.f6=b at HC ⊢;go_enter Try.func103,Try.ntmps103;go_wp2_with (go_at_call 104;(with_reducible refine (HC.out _).mono ?_);rintro e w1 ⟨rfl,hb⟩;have HD:=ja.mk (Na (qa (Below.refl _ _) _) hb);clear hb);go_ret;exact ⟨rfl,HD.out⟩
theorem UI (A0 A4 A5:Option Addr) (c0 c4 c5 n0 n4:Nat) (p1 p2 slots:Int) (l5:List lg) (j a tg els:Int) (w:World) (hn0:n0 ≤ 9223372036854775807) (VE:n4 ≤ 9223372036854775807) (sU:Kd.C Dr w A5 l5.length l5) (hc5:l5.length ≤ c5) :
  Calls Try.prog 77 #[.agg #[.slice A0 n0 c0,.int .i64 p1,.int .i64 p2,.int .i64 slots,.slice A4 n4 c4],.agg #[.slice A5 l5.length c5,.int .i64 j,.int .i64 a,.int .i64 tg,.int .i64 els]] w fun e w'=>e = .returned (.bool (Uj n0 slots n4 l5 j a tg els))∧Below w.heap.size w w':=by
 have eg:=enters_of Try.func103 (by kernel_rfl) rfl;have hm5:=sU.2.1;obtain ⟨W1,bg⟩:∃ W1,W1=(w.alloc (.cells #[.slice A0 n0 c0,.int .i64 p1,.int .i64 p2,.int .i64 slots,.slice A4 n4 c4] 30 (0,0))).alloc (.cells #[.slice A5 l5.length c5,.int .i64 j,.int .i64 a,.int .i64 tg,.int .i64 els] 59 (0,0)):=⟨_,rfl⟩;have HW:=ja.mk bg;have hB1:Below w.heap.size w W1:=by rw [bg];exact qa (qa (Below.refl _ _) _) _
 have hz:W1.heap.size=w.heap.size + 2:=by rw [bg];simp
 have hg0:W1.cell? ⟨w.heap.size,0,none⟩=some (.slice A0 n0 c0):=by rw [bg];simp
 have iR:W1.cell? ⟨w.heap.size,1,none⟩=some (.int .i64 p1):=by rw [bg];simp
 have hg2:W1.cell? ⟨w.heap.size,2,none⟩=some (.int .i64 p2):=by rw [bg];simp
 have K1:W1.cell? ⟨w.heap.size,3,none⟩=some (.int .i64 slots):=by rw [bg];simp
 have oV:W1.cell? ⟨w.heap.size,4,none⟩=some (.slice A4 n4 c4):=by rw [bg];simp
 have hx0:W1.cell? ⟨w.heap.size + 1,0,none⟩=some (.slice A5 l5.length c5):=by rw [bg];simp
 have hx1:W1.cell? ⟨w.heap.size + 1,1,none⟩=some (.int .i64 j):=by rw [bg];simp
 have Xw:W1.cell? ⟨w.heap.size + 1,2,none⟩=some (.int .i64 a):=by rw [bg];simp
 have Lr:W1.cell? ⟨w.heap.size + 1,3,none⟩=some (.int .i64 tg):=by rw [bg];simp
 have Hs:W1.cell? ⟨w.heap.size + 1,4,none⟩=some (.int .i64 els):=by rw [bg];simp
 have eo:=Kd.Db sU hB1;clear bg sU
 have HF:=ja.mk (Rw 103 #[.pointer (some ⟨w.heap.size,0,none⟩)] (fun x=>!Wm n0 slots x) eg A5 c5 l5 W1 eo hc5
  (fun W2 x hb'=>yQ w.heap.size A0 A4 c0 c4 n0 n4 p1 p2 slots hn0 VE W2 x ((hb'.cell (p:=⟨w.heap.size,0,none⟩) (by simp;omega)).trans hg0) ((hb'.cell (p:=⟨w.heap.size,1,none⟩) (by simp;omega)).trans iR) ((hb'.cell (p:=⟨w.heap.size,2,none⟩) (by simp;omega)).trans hg2) ((hb'.cell (p:=⟨w.heap.size,3,none⟩) (by simp;omega)).trans K1) ((hb'.cell (p:=⟨w.heap.size,4,none⟩) (by simp;omega)).trans oV) (Nat.lt_of_lt_of_le (by omega) hb'.size)))
 have HB:=ja.mk hB1;clear eo hB1 eg;unfold Uj;cases hq:l5.any (fun x=>!Wm n0 slots x) with
 | true =>
  rw [hq] at HF;go_enter Try.func77,Try.ntmps77
  go_upto_region 1 with (fail)
  rw [← HW.out];clear HW;go_wp2_with (first|(go_at_call 102;(with_reducible refine HF.out.mono ?_);rintro e w2 ⟨rfl,ni⟩;have Nz:=ja.mk ni;clear ni))
  all_goals
   go_ret;exact ⟨by simp,Na HB.out Nz.out⟩
 | false =>
  rw [hq] at HF;cases ha0:decide (0 ≤ a)
  all_goals
   go_enter Try.func77,Try.ntmps77
   go_upto_region 1 with (fail)
   rw [← HW.out];clear HW
   go_upto_region 3 with (first|(go_at_call 102;(with_reducible refine HF.out.mono ?_);rintro e w2 ⟨rfl,ni⟩;replace K1:=(ni.cell (World.block_lt_of_cell? W1 _ K1)).trans K1;replace oV:=(ni.cell (World.block_lt_of_cell? W1 _ oV)).trans oV;replace hx1:=(ni.cell (World.block_lt_of_cell? W1 _ hx1)).trans hx1;replace Xw:=(ni.cell (World.block_lt_of_cell? W1 _ Xw)).trans Xw;replace Lr:=(ni.cell (World.block_lt_of_cell? W1 _ Lr)).trans Lr;replace Hs:=(ni.cell (World.block_lt_of_cell? W1 _ Hs)).trans Hs;have Nz:=ja.mk (Na HB.out ni);clear ni HB hg0 iR hg2 hx0))
   go_quiet ((go_at_call 55;exact Calls.quiet_of ((Cl _ _ _ _).mono fun _ _ ⟨he,hm⟩=>⟨he,hm.out⟩)))
   go_wp2
   all_goals go_ret
   all_goals exact ⟨by first|(simp [Lk, *];done)|(simp [Lk, *];intros;omega)|(clear HF K1 oV hx1 Xw Lr Hs;simp_all [Lk];done)|(clear HF K1 oV hx1 Xw Lr Hs;simp_all [Lk];omega),by repeat (first|exact Nz.out|apply ia)⟩
def qj.f (Oa:List Int) (Ja:Int) (Fa:Int) (Ia:Int) (Ca:List (Ke)) (Sc:List (lg)) (Wb:Int) (Sb:Int) (Tb:Int) (fc:Int):Option Bool:=some (Uj Oa.length Ia Ca.length Sc Wb Sb Tb fc)
theorem qj.calls (Wa:Option Addr) (Ya:Nat) (Oa:List Int) (Ja:Int) (Fa:Int) (Ia:Int) (Ob:Option Addr) (Cb:Nat) (Ca:List (Ke)) (Df:Option Addr) (jf:Nat) (Sc:List (lg)) (Wb:Int) (Sb:Int) (Tb:Int) (fc:Int) (r:Bool) (w:World) (Ld:Kd.C (Kd.int .i64) w Wa Oa.length Oa) (Gd:Oa.length ≤ Ya) (Ue:Kd.C Gs w Ob Ca.length Ca) (Qe:Ca.length ≤ Cb) (qw:Kd.C Dr w Df Sc.length Sc) (sw:Sc.length ≤ jf) (h:qj.f Oa Ja Fa Ia Ca Sc Wb Sb Tb fc=some r) :
  Calls Try.prog 77 #[.agg #[.slice Wa Oa.length Ya,.int .i64 Ja,.int .i64 Fa,.int .i64 Ia,.slice Ob Ca.length Cb],.agg #[.slice Df Sc.length jf,.int .i64 Wb,.int .i64 Sb,.int .i64 Tb,.int .i64 fc]] w fun e w'=>e = .returned (.bool r)∧Below w.heap.size w w':=by
 injection h with h
 subst h;exact UI Wa Ob Df Ya Cb jf Oa.length Ca.length Ja Fa Ia Sc Wb Sb Tb fc w Ld.2.1 Ue.2.1 qw sw
mutual
def Yb.j0:Nat→Bool→List Int→Int→Int→Int→List (Ke)→Option (Bool)
 | 0,_,_,_,_,_,_=>none
 | k + 1,x29,Cc,Uc,Ic,Gc,ec=>if x29=true then (some false) else (Yb.l0 k 0 ec (ec.length:Int) 0 Cc Uc Ic Gc ec)
def Yb.l0:Nat→Int→List (Ke)→Int→Int→List Int→Int→Int→Int→List (Ke)→Option (Bool)
 | 0,_,_,_,_,_,_,_,_,_=>none
 | k + 1,x3,DY,x32,XJ,Cc,Uc,Ic,Gc,ec=>if XJ < x32 then (if 0 ≤ XJ then (if XJ < (DY.length:Int) then ((qj.f Cc Uc Ic Gc ec ((Ea DY XJ).f0) ((Ea DY XJ).f1) ((Ea DY XJ).f2) ((Ea DY XJ).f3) ((Ea DY XJ).f4)).bind fun t107=>(if t107=true then (Yb.l0 k (wrap64 (x3 + (((Ea DY XJ).f0).length:Int))) DY x32 (wrap64 (XJ + 1)) Cc Uc Ic Gc ec) else (some false))) else (none)) else (none)) else (some (decide (x3 ≤ 1000)))
end
def Yb.f (k:Nat) (Oa:List Int) (Ja:Int) (Fa:Int) (Ia:Int) (Ca:List (Ke)):Option (Bool):=(Cg.f Oa Ja Fa ([]:List (GA))).bind fun t102=>(if t102=true then ((Wf.f Ia Fa 1000).bind fun t103=>(if t103=true then ((Wf.f (Ca.length:Int) 1 300).bind fun t104=>(Yb.j0 k (!t104) Oa Ja Fa Ia Ca)) else (Yb.j0 k true Oa Ja Fa Ia Ca))) else (Yb.j0 k true Oa Ja Fa Ia Ca))
theorem Yb.calls (k:Nat) (Wa:Option Addr) (Ya:Nat) (Oa:List Int) (Ja:Int) (Fa:Int) (Ia:Int) (Ob:Option Addr) (Cb:Nat) (Ca:List (Ke)) (r:Bool) (w:World) (Ld:Kd.C (Kd.int .i64) w Wa Oa.length Oa) (Gd:Oa.length ≤ Ya) (Ue:Kd.C Gs w Ob Ca.length Ca) (Qe:Ca.length ≤ Cb) (h:Yb.f k Oa Ja Fa Ia Ca=some r) :
  Calls Try.prog 46 #[.agg #[.slice Wa Oa.length Ya,.int .i64 Ja,.int .i64 Fa,.int .i64 Ia,.slice Ob Ca.length Cb]] w fun e w'=>e = .returned (.bool r)∧Below w.heap.size w w':=by
 have gB:=Try.underlying30;have Zas:=Try.underlying95;have fB:=Try.underlying59;have Md:=ja.mk Ld;have Rd:=ja.mk Gd;clear Ld Gd;have Ce:=ja.mk Ue;have Ff:=ja.mk Qe;clear Ue Qe;have HB:=ja.mk (Below.refl w.heap.size w);have H:((Cg.f Oa Ja Fa ([]:List (GA))).bind fun t102=>(if t102=true then ((Wf.f Ia Fa 1000).bind fun t103=>(if t103=true then ((Wf.f (Ca.length:Int) 1 300).bind fun t104=>(Yb.j0 k (!t104) Oa Ja Fa Ia Ca)) else (Yb.j0 k true Oa Ja Fa Ia Ca))) else (Yb.j0 k true Oa Ja Fa Ia Ca)))=some r:=h;clear h;have bU:=ja.mk H;clear H;go_enter Try.func46,Try.ntmps46
 go_upto_region 1 with (first|((with_reducible refine qb (N:=1) rfl ?_);(try (refine kg (by rfl) ?_;dsimp only));refine Gb ?hg (N:=1) ?hd (cs:=#[.slice Wa Oa.length Ya,.int .i64 Ja,.int .i64 Fa,.int .i64 Ia,.slice Ob Ca.length Cb]) (t:=30) ?hr ?_;(case hd=>rfl);(case hg=>rfl);(case hr=>first|(go_simp;done)|(go_simp;rfl));intro ya hg w3 Rb hb;have Eb:=ja.mk (Na (by repeat (first|(with_reducible first|exact HB.out|apply qa|apply ia|apply ta)|exact HB.out)) hb);have Jb:=ja.mk (Rb);have Ub:=ja.mk ((by rw [hg];exact (Ga (by repeat (first|(with_reducible first|exact HB.out|apply qa|apply ia|apply ta)|exact HB.out))):w.heap.size ≤ ya));have uc:=ja.mk ((by rw [hg];exact (Ga (by repeat (first|(with_reducible first|exact HB.out|apply qa|apply ia|apply ta)|exact HB.out))):w.heap.size ≤ ya));clear HB;have HB:=Eb;have oa:=Jb;have xd:=Ub;have Ra:=uc;clear Eb Jb Ub uc hb Rb hg))
 (try simp only [Act.put,List.setIfInBounds_toArray,List.set_cons_zero,List.set_cons_succ])
 go_cut [29] (fun v29 wc=>∃ (kq:Nat) (kM:Bool),v29 = .bool kM∧ja (Yb.j0 kq kM Oa Ja Fa Ia Ca=some r)∧ja (kq ≤ k)∧ja (wc.heap[ya]? = some (.cells #[(.slice Wa Oa.length Ya),.int .i64 Ja,.int .i64 Fa,.int .i64 Ia,(.slice Ob Ca.length Cb)] 30 (0,0)))∧ja (Below w.heap.size w wc))
 case first =>
  have H:=bU.out;clear bU;replace H:=Option.bind_eq_some_iff.mp H;obtain ⟨t102,PZ,H⟩:=H;replace H:(if t102=true then ((Wf.f Ia Fa 1000).bind fun t103=>(if t103=true then ((Wf.f (Ca.length:Int) 1 300).bind fun t104=>(Yb.j0 k (!t104) Oa Ja Fa Ia Ca)) else (Yb.j0 k true Oa Ja Fa Ia Ca))) else (Yb.j0 k true Oa Ja Fa Ia Ca))=some r:=H;have A4:=ja.mk PZ;clear PZ
  by_cases c5:t102=true
  ·subst c5;have H1:((Wf.f Ia Fa 1000).bind fun t103=>(if t103=true then ((Wf.f (Ca.length:Int) 1 300).bind fun t104=>(Yb.j0 k (!t104) Oa Ja Fa Ia Ca)) else (Yb.j0 k true Oa Ja Fa Ia Ca)))=some r:=by rw [if_pos rfl] at H;exact H
   clear H;have H:=H1;clear H1;replace H:=Option.bind_eq_some_iff.mp H;obtain ⟨t103,OZ,H⟩:=H;replace H:(if t103=true then ((Wf.f (Ca.length:Int) 1 300).bind fun t104=>(Yb.j0 k (!t104) Oa Ja Fa Ia Ca)) else (Yb.j0 k true Oa Ja Fa Ia Ca))=some r:=H;have A6:=ja.mk OZ;clear OZ
   by_cases c7:t103=true
   ·subst c7;have H1:((Wf.f (Ca.length:Int) 1 300).bind fun t104=>(Yb.j0 k (!t104) Oa Ja Fa Ia Ca))=some r:=by rw [if_pos rfl] at H;exact H
    clear H;have H:=H1;clear H1;replace H:=Option.bind_eq_some_iff.mp H;obtain ⟨t104,fU,H⟩:=H;replace H:(Yb.j0 k (!t104) Oa Ja Fa Ia Ca)=some r:=H;have A8:=ja.mk fU;clear fU;have H':=ja.mk H;clear H;have Vg:w3.cell? ⟨ya,0,none⟩=some (.slice Wa Oa.length Ya):=(ga oa.out 0).trans rfl;have Ug:w3.cell? ⟨ya,1,none⟩=some (.int .i64 Ja):=(ga oa.out 1).trans rfl;have Tg:w3.cell? ⟨ya,2,none⟩=some (.int .i64 Fa):=(ga oa.out 2).trans rfl;have Sg:w3.cell? ⟨ya,3,none⟩=some (.int .i64 Ia):=(ga oa.out 3).trans rfl;have Rg:w3.cell? ⟨ya,4,none⟩=some (.slice Ob Ca.length Cb):=(ga oa.out 4).trans rfl;have Qg:=aa oa.out 0;have Pg:=aa oa.out 1;have Og:=aa oa.out 2;have Ng:=aa oa.out 3;have Mg:=aa oa.out 4;go_wp2_with (first|((with_reducible refine mb (f:=76) rfl ?_);refine Mc (some 13) rfl rfl Try.func76 (by kernel_rfl) rfl #[.agg #[.slice Wa Oa.length Ya,.int .i64 Ja,.int .i64 Fa,.slice none 0 0]] rfl (by (try simp only [List.map_toArray,List.map_cons,List.map_nil]);first|done|rfl|(simp only [List.length_drop,List.length_take];rfl)) ?_;(refine (Cg.calls _ _ Oa Ja Fa _ _ ([]:List (GA)) true _ ?dc ?Zb ?Rc ?Qc A4.out).mono ?_);(case dc=>repeat (first|exact (Kd.Db Md.out HB.out)|(with_reducible refine Kd.Bb ?_ _)|(with_reducible refine Kd.Ab ?_ _)|(with_reducible refine Kd.Qb ?_)));(case Zb=>exact Rd.out);(case Rc=>exact Kd.MP _ _);(case Qc=>exact Nat.le_refl _);rintro e Fs ⟨rfl,hb⟩;refine ⟨_,rfl,?_⟩;have Eb:=ja.mk (Ta (g:=ya) (o:=.cells #[.slice Wa Oa.length Ya,.int .i64 Ja,.int .i64 Fa,.int .i64 Ia,.slice Ob Ca.length Cb] 30 (0,0)) (by (with_reducible repeat (first|refine Aa ?_ _|refine Da ?_|refine Ba ?_ _));exact oa.out) hb);have Jb:=ja.mk (Na (by repeat (first|(with_reducible first|exact HB.out|apply qa|apply ia|apply ta|refine ua ?_ Ra.out)|exact HB.out)) hb);clear oa HB;have oa:=Eb;have HB:=Jb;clear Eb Jb;(try clear hb);(try clear ni);(try clear hk);(try clear hi);have Nt:Fs.cell? ⟨ya,0,none⟩=some (.slice Wa Oa.length Ya):=(ga oa.out 0).trans rfl;have Mt:Fs.cell? ⟨ya,1,none⟩=some (.int .i64 Ja):=(ga oa.out 1).trans rfl;have Lt:Fs.cell? ⟨ya,2,none⟩=some (.int .i64 Fa):=(ga oa.out 2).trans rfl;have Kt:Fs.cell? ⟨ya,3,none⟩=some (.int .i64 Ia):=(ga oa.out 3).trans rfl;have Jt:Fs.cell? ⟨ya,4,none⟩=some (.slice Ob Ca.length Cb):=(ga oa.out 4).trans rfl;have yt:=aa oa.out 0;have vt:=aa oa.out 1;have qt:=aa oa.out 2;have ot:=aa oa.out 3;have nt:=aa oa.out 4)|(go_at_call 55;(with_reducible refine (Wf.calls Ia Fa 1000 true _ A6.out).mono ?_);rintro e w' ⟨rfl,⟨nd,rfl⟩⟩)|(go_at_call 55;(with_reducible refine (Wf.calls (Ca.length:Int) 1 300 t104 _ A8.out).mono ?_);rintro e w' ⟨rfl,⟨nd,rfl⟩⟩))
    go_meet
    case rel=>exact ⟨_,(!t104),(by first|rfl|(simp;done)|(simp [*];done)),H',⟨by first|omega|exact Nat.le_refl _⟩,⟨by (with_reducible repeat (first|refine Aa ?_ _|refine Da ?_|refine Ba ?_ _));exact oa.out⟩,⟨by repeat (first|(with_reducible first|exact HB.out|apply qa|apply ia|apply ta|refine ua ?_ Ra.out)|exact HB.out)⟩⟩
   ·replace c7:=Bool.eq_false_iff.mpr c7;subst c7;have H1:(Yb.j0 k true Oa Ja Fa Ia Ca)=some r:=by rw [if_neg (show ¬ (false=true) by decide)] at H;exact H
    clear H;have H:=H1;clear H1;have H':=ja.mk H;clear H;have kr:w3.cell? ⟨ya,0,none⟩=some (.slice Wa Oa.length Ya):=(ga oa.out 0).trans rfl;have jr:w3.cell? ⟨ya,1,none⟩=some (.int .i64 Ja):=(ga oa.out 1).trans rfl;have ir:w3.cell? ⟨ya,2,none⟩=some (.int .i64 Fa):=(ga oa.out 2).trans rfl;have gr:w3.cell? ⟨ya,3,none⟩=some (.int .i64 Ia):=(ga oa.out 3).trans rfl;have er:w3.cell? ⟨ya,4,none⟩=some (.slice Ob Ca.length Cb):=(ga oa.out 4).trans rfl;have Kq:=aa oa.out 0;have Jq:=aa oa.out 1;have Iq:=aa oa.out 2;have Hq:=aa oa.out 3;have Gq:=aa oa.out 4;go_wp2_with (first|((with_reducible refine mb (f:=76) rfl ?_);refine Mc (some 13) rfl rfl Try.func76 (by kernel_rfl) rfl #[.agg #[.slice Wa Oa.length Ya,.int .i64 Ja,.int .i64 Fa,.slice none 0 0]] rfl (by (try simp only [List.map_toArray,List.map_cons,List.map_nil]);first|done|rfl|(simp only [List.length_drop,List.length_take];rfl)) ?_;(refine (Cg.calls _ _ Oa Ja Fa _ _ ([]:List (GA)) true _ ?dc ?Zb ?Rc ?Qc A4.out).mono ?_);(case dc=>repeat (first|exact (Kd.Db Md.out HB.out)|(with_reducible refine Kd.Bb ?_ _)|(with_reducible refine Kd.Ab ?_ _)|(with_reducible refine Kd.Qb ?_)));(case Zb=>exact Rd.out);(case Rc=>exact Kd.MP _ _);(case Qc=>exact Nat.le_refl _);rintro e Ks ⟨rfl,hb⟩;refine ⟨_,rfl,?_⟩;have Eb:=ja.mk (Ta (g:=ya) (o:=.cells #[.slice Wa Oa.length Ya,.int .i64 Ja,.int .i64 Fa,.int .i64 Ia,.slice Ob Ca.length Cb] 30 (0,0)) (by (with_reducible repeat (first|refine Aa ?_ _|refine Da ?_|refine Ba ?_ _));exact oa.out) hb);have Jb:=ja.mk (Na (by repeat (first|(with_reducible first|exact HB.out|apply qa|apply ia|apply ta|refine ua ?_ Ra.out)|exact HB.out)) hb);clear oa HB;have oa:=Eb;have HB:=Jb;clear Eb Jb;(try clear hb);(try clear ni);(try clear hk);(try clear hi);have uh:Ks.cell? ⟨ya,0,none⟩=some (.slice Wa Oa.length Ya):=(ga oa.out 0).trans rfl;have th:Ks.cell? ⟨ya,1,none⟩=some (.int .i64 Ja):=(ga oa.out 1).trans rfl;have qh:Ks.cell? ⟨ya,2,none⟩=some (.int .i64 Fa):=(ga oa.out 2).trans rfl;have oh:Ks.cell? ⟨ya,3,none⟩=some (.int .i64 Ia):=(ga oa.out 3).trans rfl;have nh:Ks.cell? ⟨ya,4,none⟩=some (.slice Ob Ca.length Cb):=(ga oa.out 4).trans rfl;have bh:=aa oa.out 0;have ah:=aa oa.out 1;have Zg:=aa oa.out 2;have Yg:=aa oa.out 3;have Xg:=aa oa.out 4)|(go_at_call 55;(with_reducible refine (Wf.calls Ia Fa 1000 false _ A6.out).mono ?_);rintro e w' ⟨rfl,⟨nd,rfl⟩⟩))
    go_meet
    case rel=>exact ⟨_,(true),(by first|rfl|(simp;done)|(simp [*];done)),H',⟨by first|omega|exact Nat.le_refl _⟩,⟨by (with_reducible repeat (first|refine Aa ?_ _|refine Da ?_|refine Ba ?_ _));exact oa.out⟩,⟨by repeat (first|(with_reducible first|exact HB.out|apply qa|apply ia|apply ta|refine ua ?_ Ra.out)|exact HB.out)⟩⟩
  ·replace c5:=Bool.eq_false_iff.mpr c5;subst c5;have H1:(Yb.j0 k true Oa Ja Fa Ia Ca)=some r:=by rw [if_neg (show ¬ (false=true) by decide)] at H;exact H
   clear H;have H:=H1;clear H1;have H':=ja.mk H;clear H;have qz:w3.cell? ⟨ya,0,none⟩=some (.slice Wa Oa.length Ya):=(ga oa.out 0).trans rfl;have pz:w3.cell? ⟨ya,1,none⟩=some (.int .i64 Ja):=(ga oa.out 1).trans rfl;have oz:w3.cell? ⟨ya,2,none⟩=some (.int .i64 Fa):=(ga oa.out 2).trans rfl;have mz:w3.cell? ⟨ya,3,none⟩=some (.int .i64 Ia):=(ga oa.out 3).trans rfl;have kz:w3.cell? ⟨ya,4,none⟩=some (.slice Ob Ca.length Cb):=(ga oa.out 4).trans rfl;have Qy:=aa oa.out 0;have Py:=aa oa.out 1;have Oy:=aa oa.out 2;have Ny:=aa oa.out 3;have My:=aa oa.out 4;go_wp2_with (first|((with_reducible refine mb (f:=76) rfl ?_);refine Mc (some 13) rfl rfl Try.func76 (by kernel_rfl) rfl #[.agg #[.slice Wa Oa.length Ya,.int .i64 Ja,.int .i64 Fa,.slice none 0 0]] rfl (by (try simp only [List.map_toArray,List.map_cons,List.map_nil]);first|done|rfl|(simp only [List.length_drop,List.length_take];rfl)) ?_;(refine (Cg.calls _ _ Oa Ja Fa _ _ ([]:List (GA)) false _ ?dc ?Zb ?Rc ?Qc A4.out).mono ?_);(case dc=>repeat (first|exact (Kd.Db Md.out HB.out)|(with_reducible refine Kd.Bb ?_ _)|(with_reducible refine Kd.Ab ?_ _)|(with_reducible refine Kd.Qb ?_)));(case Zb=>exact Rd.out);(case Rc=>exact Kd.MP _ _);(case Qc=>exact Nat.le_refl _);rintro e Pz ⟨rfl,hb⟩;refine ⟨_,rfl,?_⟩;have Eb:=ja.mk (Ta (g:=ya) (o:=.cells #[.slice Wa Oa.length Ya,.int .i64 Ja,.int .i64 Fa,.int .i64 Ia,.slice Ob Ca.length Cb] 30 (0,0)) (by (with_reducible repeat (first|refine Aa ?_ _|refine Da ?_|refine Ba ?_ _));exact oa.out) hb);have Jb:=ja.mk (Na (by repeat (first|(with_reducible first|exact HB.out|apply qa|apply ia|apply ta|refine ua ?_ Ra.out)|exact HB.out)) hb);clear oa HB;have oa:=Eb;have HB:=Jb;clear Eb Jb;(try clear hb);(try clear ni);(try clear hk);(try clear hi)))
   go_meet
   case rel=>exact ⟨_,(true),(by first|rfl|(simp;done)|(simp [*];done)),H',⟨by first|omega|exact Nat.le_refl _⟩,⟨by (with_reducible repeat (first|refine Aa ?_ _|refine Da ?_|refine Ba ?_ _));exact oa.out⟩,⟨by repeat (first|(with_reducible first|exact HB.out|apply qa|apply ia|apply ta|refine ua ?_ Ra.out)|exact HB.out)⟩⟩
 case rest =>
  clear bU
  try clear p2
  try clear c4
  try clear c5
  try clear c7
  try clear Nt
  try clear Mt
  try clear Lt
  try clear Kt
  try clear Jt
  try clear kr
  try clear jr
  try clear ir
  try clear gr
  try clear er
  try clear uh
  try clear th
  try clear qh
  try clear oh
  try clear nh
  try clear qz
  try clear pz
  try clear oz
  try clear mz
  try clear kz
  try clear Vg
  try clear Ug
  try clear Tg
  try clear Sg
  try clear Rg
  try clear yt
  try clear vt
  try clear qt
  try clear ot
  try clear nt
  try clear Kq
  try clear Jq
  try clear Iq
  try clear Hq
  try clear Gq
  try clear bh
  try clear ah
  try clear Zg
  try clear Yg
  try clear Xg
  try clear Qy
  try clear Py
  try clear Oy
  try clear Ny
  try clear My
  try clear Qg
  try clear Pg
  try clear Og
  try clear Ng
  try clear Mg
  obtain ⟨kq,kM,rfl,HA,JZ,oa,HB⟩:=hcut;cases kq with
  | zero=>exact absurd HA.out (by simp [Yb.j0])
  | succ XR =>
   have H:=HA.out;clear HA;simp only [Yb.j0] at H
   by_cases Qo:kM=true
   ·subst Qo;have H1:(some false)=some r:=by rw [if_pos rfl] at H;exact H
    clear H;have H:=H1;clear H1;obtain rfl:=Option.some.inj H;go_wp2;go_ret;exact ⟨by first|rfl|(simp [Ma,La] <;> rfl)|(simp [*,Ma,La] <;> rfl),by repeat (first|(with_reducible first|exact HB.out|apply qa|apply ia|apply ta|refine ua ?_ Ra.out)|exact HB.out)⟩
   ·replace Qo:=Bool.eq_false_iff.mpr Qo;subst Qo;have H1:(Yb.l0 XR 0 Ca (Ca.length:Int) 0 Oa Ja Fa Ia Ca)=some r:=by rw [if_neg (show ¬ (false=true) by decide)] at H;exact H
    clear H;have H:=H1;clear H1;have H':=ja.mk H;clear H;have Pv:wc.cell? ⟨ya,0,none⟩=some (.slice Wa Oa.length Ya):=(ga oa.out 0).trans rfl;have Ov:wc.cell? ⟨ya,1,none⟩=some (.int .i64 Ja):=(ga oa.out 1).trans rfl;have Nv:wc.cell? ⟨ya,2,none⟩=some (.int .i64 Fa):=(ga oa.out 2).trans rfl;have Mv:wc.cell? ⟨ya,3,none⟩=some (.int .i64 Ia):=(ga oa.out 3).trans rfl;have Lv:wc.cell? ⟨ya,4,none⟩=some (.slice Ob Ca.length Cb):=(ga oa.out 4).trans rfl;have zv:=aa oa.out 0;have wv:=aa oa.out 1;have vv:=aa oa.out 2;have uv:=aa oa.out 3;have tv:=aa oa.out 4;go_wp2
    go_loopg [3,33] XR (fun kq v3 v33 w'=>∃ (Oz:Int) (Xd:Int),v3 = .int .i64 Oz∧v33 = .int .i64 Xd∧ja (Yb.l0 kq Oz Ca (Ca.length:Int) Xd Oa Ja Fa Ia Ca=some r)∧ja (kq ≤ XR)∧ja (w'.heap[ya]? = some (.cells #[(.slice Wa Oa.length Ya),.int .i64 Ja,.int .i64 Fa,.int .i64 Ia,(.slice Ob Ca.length Cb)] 30 (0,0)))∧ja (Below w.heap.size w w'))
    case atStart=>exact ⟨(0),(0),(by first|rfl|(simp;done)|(simp [*];done)),(by first|rfl|(simp;done)|(simp [*];done)),H',⟨Nat.le_refl _⟩,⟨by (with_reducible repeat (first|refine Aa ?_ _|refine Da ?_|refine Ba ?_ _));exact oa.out⟩,⟨by repeat (first|(with_reducible first|exact HB.out|apply qa|apply ia|apply ta|refine ua ?_ Ra.out)|exact HB.out)⟩⟩
    case round =>
     clear H'
     try clear c1
     try clear p2
     try clear c4
     try clear c5
     try clear c7
     try clear Qo
     try clear Nt
     try clear Mt
     try clear Lt
     try clear Kt
     try clear Jt
     try clear kr
     try clear jr
     try clear ir
     try clear gr
     try clear er
     try clear uh
     try clear th
     try clear qh
     try clear oh
     try clear nh
     try clear qz
     try clear pz
     try clear oz
     try clear mz
     try clear kz
     try clear Pv
     try clear Ov
     try clear Nv
     try clear Mv
     try clear Lv
     try clear Vg
     try clear Ug
     try clear Tg
     try clear Sg
     try clear Rg
     try clear yt
     try clear vt
     try clear qt
     try clear ot
     try clear nt
     try clear Kq
     try clear Jq
     try clear Iq
     try clear Hq
     try clear Gq
     try clear bh
     try clear ah
     try clear Zg
     try clear Yg
     try clear Xg
     try clear Qy
     try clear Py
     try clear Oy
     try clear Ny
     try clear My
     try clear zv
     try clear wv
     try clear vv
     try clear uv
     try clear tv
     try clear Qg
     try clear Pg
     try clear Og
     try clear Ng
     try clear Mg
     try clear p2
     (try clear HA);(try clear Xo);(try clear oa);(try clear HB);obtain ⟨Oz,Xd,rfl,rfl,HA,Xo,oa,HB⟩:=hrel;cases gk with
     | zero=>exact absurd HA.out (by simp [Yb.l0])
     | succ k2 =>
      have H:=HA.out;clear HA;simp only [Yb.l0] at H
      by_cases Xk:Xd < (Ca.length:Int)
      ·rw [if_pos Xk] at H;have fu:decide (Xd < (Ca.length:Int))=true:=decide_eq_true Xk;clear Xk
       by_cases Mn:0 ≤ Xd
       ·rw [if_pos Mn] at H;have Wr:decide (0 ≤ Xd)=true:=decide_eq_true Mn;clear Mn
        by_cases Vr:Xd < (Ca.length:Int)
        ·rw [if_pos Vr] at H;have yJ:decide (Xd < (Ca.length:Int))=true:=decide_eq_true Vr;clear Vr;replace H:=Option.bind_eq_some_iff.mp H;obtain ⟨t107,Mad,H⟩:=H;replace H:(if t107=true then (Yb.l0 k2 (wrap64 (Oz + (((Ea Ca Xd).f0).length:Int))) Ca (Ca.length:Int) (wrap64 (Xd + 1)) Oa Ja Fa Ia Ca) else (some false))=some r:=H;have A22:=ja.mk Mad;clear Mad
         by_cases uw:t107=true
         ·subst uw;have H1:(Yb.l0 k2 (wrap64 (Oz + (((Ea Ca Xd).f0).length:Int))) Ca (Ca.length:Int) (wrap64 (Xd + 1)) Oa Ja Fa Ia Ca)=some r:=by rw [if_pos rfl] at H;exact H
          clear H;have H:=H1;clear H1;have H':=ja.mk H;clear H;have vo:0 ≤ (Xd:Int):=Sa;have uo:Xd < (Ca.length:Int):=Sa;obtain ⟨Nm,Tk,Rk,uD,di,jl,gl,fl,cl,Rj,Tj⟩:=wj Ce.out Xd vo uo;cases uD;replace di:=Qa HB.out di;replace jl:=Qa HB.out jl;replace gl:=Qa HB.out gl;replace fl:=Qa HB.out fl;replace cl:=Qa HB.out cl;have Ro:=ja.mk Tj;have Vv:=ja.mk Rj;clear Tj Rj;replace vo:=eq_true vo;replace uo:=eq_true uo;go_wp2_with (first|((with_reducible refine qb (N:=5) rfl ?_);(try (refine kg (by rfl) ?_;dsimp only));refine Gb ?hg (N:=5) ?hd (cs:=#[.slice none 0 0,.int .i64 0,.int .i64 0,.int .i64 0,.int .i64 0]) (t:=59) ?hr ?_;(case hd=>rfl);(case hg=>rfl);(case hr=>first|(go_simp;done)|(go_simp;rfl));intro Vk hg tR Rb hb;have Eb:=ja.mk (Ta (g:=ya) (o:=.cells #[.slice Wa Oa.length Ya,.int .i64 Ja,.int .i64 Fa,.int .i64 Ia,.slice (some Nm) Ca.length Cb] 30 (0,0)) (by (with_reducible repeat (first|refine Aa ?_ _|refine Da ?_|refine Ba ?_ _));exact oa.out) hb);have Jb:=ja.mk (Na (by repeat (first|(with_reducible first|exact HB.out|apply qa|apply ia|apply ta|refine ua ?_ Ra.out)|exact HB.out)) hb);have Ub:=ja.mk (Rb);have uc:=ja.mk ((by rw [hg];exact (Ga (by repeat (first|(with_reducible first|exact HB.out|apply qa|apply ia|apply ta|refine ua ?_ Ra.out)|exact HB.out))):w.heap.size ≤ Vk));have lf:=ja.mk ((by rw [hg];exact (Ga (by repeat (first|(with_reducible first|exact HB.out|apply qa|apply ia|apply ta|refine ua ?_ Ra.out)|exact HB.out))):w.heap.size ≤ Vk));have Vf:=ja.mk ((by rw [hg];exact Nat.ne_of_lt (Jc (g:=ya) (o:=.cells #[.slice Wa Oa.length Ya,.int .i64 Ja,.int .i64 Fa,.int .i64 Ia,.slice (some Nm) Ca.length Cb] 30 (0,0)) (by (with_reducible repeat (first|refine Aa ?_ _|refine Da ?_|refine Ba ?_ _));exact oa.out)):ya ≠ Vk));have pg:=ja.mk ((by rw [hg];exact Nat.ne_of_gt (Jc (g:=ya) (o:=.cells #[.slice Wa Oa.length Ya,.int .i64 Ja,.int .i64 Fa,.int .i64 Ia,.slice (some Nm) Ca.length Cb] 30 (0,0)) (by (with_reducible repeat (first|refine Aa ?_ _|refine Da ?_|refine Ba ?_ _));exact oa.out)):Vk ≠ ya));clear oa HB;have oa:=Eb;have HB:=Jb;have ij:=Ub;have Cad:=uc;have Mu:=lf;have Vh:=Vf;have LA:=pg;clear Eb Jb Ub uc lf Vf pg hb Rb hg;have D8:=LA.out;have l8:=Vh.out;have Ht:tR.cell? ⟨Vk,0,none⟩=some (.slice none 0 0):=(ga ij.out 0).trans rfl;have Gt:tR.cell? ⟨Vk,1,none⟩=some (.int .i64 0):=(ga ij.out 1).trans rfl;have Ft:tR.cell? ⟨Vk,2,none⟩=some (.int .i64 0):=(ga ij.out 2).trans rfl;have Et:tR.cell? ⟨Vk,3,none⟩=some (.int .i64 0):=(ga ij.out 3).trans rfl;have Dt:tR.cell? ⟨Vk,4,none⟩=some (.int .i64 0):=(ga ij.out 4).trans rfl;have jt:=aa ij.out 0;have ct:=aa ij.out 1;have bt:=aa ij.out 2;have Zs:=aa ij.out 3;have Ys:=aa ij.out 4;have Fv:tR.cell? ⟨ya,0,none⟩=some (.slice Wa Oa.length Ya):=(ga oa.out 0).trans rfl;have Dv:tR.cell? ⟨ya,1,none⟩=some (.int .i64 Ja):=(ga oa.out 1).trans rfl;have Cv:tR.cell? ⟨ya,2,none⟩=some (.int .i64 Fa):=(ga oa.out 2).trans rfl;have Bv:tR.cell? ⟨ya,3,none⟩=some (.int .i64 Ia):=(ga oa.out 3).trans rfl;have Av:tR.cell? ⟨ya,4,none⟩=some (.slice (some Nm) Ca.length Cb):=(ga oa.out 4).trans rfl;have cv:=aa oa.out 0;have av:=aa oa.out 1;have Zu:=aa oa.out 2;have Yu:=aa oa.out 3;have Xu:=aa oa.out 4)|((with_reducible refine mb (f:=77) rfl ?_);refine Mc (some 44) rfl rfl Try.func77 (by kernel_rfl) rfl #[.agg #[.slice Wa Oa.length Ya,.int .i64 Ja,.int .i64 Fa,.int .i64 Ia,.slice (some Nm) Ca.length Cb],.agg #[.slice Tk ((Ea Ca Xd).f0).length Rk,.int .i64 ((Ea Ca Xd).f1),.int .i64 ((Ea Ca Xd).f2),.int .i64 ((Ea Ca Xd).f3),.int .i64 ((Ea Ca Xd).f4)]] rfl (by (try simp only [List.map_toArray,List.map_cons,List.map_nil]);first|done|rfl|(simp only [List.length_drop,List.length_take];rfl)) ?_;(with_reducible refine (qj.calls _ _ Oa Ja Fa Ia _ _ Ca _ _ ((Ea Ca Xd).f0) ((Ea Ca Xd).f1) ((Ea Ca Xd).f2) ((Ea Ca Xd).f3) ((Ea Ca Xd).f4) true _ ?dc ?Zb ?Rc ?Qc ?Dn ?Cn A22.out).mono ?_);(case dc=>exact Kd.Db Md.out (by repeat (first|(with_reducible first|exact HB.out|apply qa|apply ia|apply ta|refine ua ?_ Ra.out|refine ua ?_ Mu.out)|exact HB.out)));(case Zb=>exact Rd.out);(case Rc=>exact Kd.Db Ce.out (by repeat (first|(with_reducible first|exact HB.out|apply qa|apply ia|apply ta|refine ua ?_ Ra.out|refine ua ?_ Mu.out)|exact HB.out)));(case Qc=>exact Ff.out);(case Dn=>exact Kd.Db Ro.out (by repeat (first|(with_reducible first|exact HB.out|apply qa|apply ia|apply ta|refine ua ?_ Ra.out|refine ua ?_ Mu.out)|exact HB.out)));(case Cn=>exact Vv.out);rintro e ew ⟨rfl,hb⟩;refine ⟨_,rfl,?_⟩;have Eb:=ja.mk (Ta (g:=ya) (o:=.cells #[.slice Wa Oa.length Ya,.int .i64 Ja,.int .i64 Fa,.int .i64 Ia,.slice (some Nm) Ca.length Cb] 30 (0,0)) (by (with_reducible repeat (first|refine Aa ?_ _|refine Da ?_|refine Ba ?_ _));refine ie ?_ Vh.out _;(with_reducible repeat (first|refine Aa ?_ _|refine Da ?_|refine Ba ?_ _));refine ie ?_ Vh.out _;(with_reducible repeat (first|refine Aa ?_ _|refine Da ?_|refine Ba ?_ _));refine ie ?_ Vh.out _;(with_reducible repeat (first|refine Aa ?_ _|refine Da ?_|refine Ba ?_ _));refine ie ?_ Vh.out _;(with_reducible repeat (first|refine Aa ?_ _|refine Da ?_|refine Ba ?_ _));refine ie ?_ Vh.out _;(with_reducible repeat (first|refine Aa ?_ _|refine Da ?_|refine Ba ?_ _));exact oa.out) hb);have Jb:=ja.mk (Ta (g:=Vk) (o:=.cells #[.slice Tk ((Ea Ca Xd).f0).length Rk,.int .i64 ((Ea Ca Xd).f1),.int .i64 ((Ea Ca Xd).f2),.int .i64 ((Ea Ca Xd).f3),.int .i64 ((Ea Ca Xd).f4)] 59 (0,0)) (by (with_reducible repeat (first|refine Aa ?_ _|refine Da ?_|refine Ba ?_ _));refine fe (cs:=#[.slice Tk ((Ea Ca Xd).f0).length Rk,.int .i64 ((Ea Ca Xd).f1),.int .i64 ((Ea Ca Xd).f2),.int .i64 ((Ea Ca Xd).f3),.int .i64 0]) ?_ 4 _ rfl;(with_reducible repeat (first|refine Aa ?_ _|refine Da ?_|refine Ba ?_ _));refine fe (cs:=#[.slice Tk ((Ea Ca Xd).f0).length Rk,.int .i64 ((Ea Ca Xd).f1),.int .i64 ((Ea Ca Xd).f2),.int .i64 0,.int .i64 0]) ?_ 3 _ rfl;(with_reducible repeat (first|refine Aa ?_ _|refine Da ?_|refine Ba ?_ _));refine fe (cs:=#[.slice Tk ((Ea Ca Xd).f0).length Rk,.int .i64 ((Ea Ca Xd).f1),.int .i64 0,.int .i64 0,.int .i64 0]) ?_ 2 _ rfl;(with_reducible repeat (first|refine Aa ?_ _|refine Da ?_|refine Ba ?_ _));refine fe (cs:=#[.slice Tk ((Ea Ca Xd).f0).length Rk,.int .i64 0,.int .i64 0,.int .i64 0,.int .i64 0]) ?_ 1 _ rfl;(with_reducible repeat (first|refine Aa ?_ _|refine Da ?_|refine Ba ?_ _));refine fe (cs:=#[.slice none 0 0,.int .i64 0,.int .i64 0,.int .i64 0,.int .i64 0]) ?_ 0 _ rfl;(with_reducible repeat (first|refine Aa ?_ _|refine Da ?_|refine Ba ?_ _));exact ij.out) hb);have Ub:=ja.mk (Na (by repeat (first|(with_reducible first|exact HB.out|apply qa|apply ia|apply ta|refine ua ?_ Ra.out|refine ua ?_ Mu.out)|exact HB.out)) hb);clear oa ij HB;have oa:=Eb;have ij:=Jb;have HB:=Ub;clear Eb Jb Ub;(try clear hb);(try clear ni);(try clear hk);(try clear hi)))
          go_roundg k2
          case measure=>have:=JZ.out;have:=Xo.out;omega
          case rel=>exact ⟨(wrap64 (Oz + (((Ea Ca Xd).f0).length:Int))),(wrap64 (Xd + 1)),(by first|rfl|(simp;done)|(simp [*];done)),(by first|rfl|(simp;done)|(simp [*];done)),H',⟨by have:=JZ.out;have:=Xo.out;omega⟩,⟨by (with_reducible repeat (first|refine Aa ?_ _|refine Da ?_|refine Ba ?_ _));exact oa.out⟩,⟨by repeat (first|(with_reducible first|exact HB.out|apply qa|apply ia|apply ta|refine ua ?_ Ra.out|refine ua ?_ Mu.out)|exact HB.out)⟩⟩
         ·replace uw:=Bool.eq_false_iff.mpr uw;subst uw;have H1:(some false)=some r:=by rw [if_neg (show ¬ (false=true) by decide)] at H;exact H
          clear H;have H:=H1;clear H1;obtain rfl:=Option.some.inj H;have vo:0 ≤ (Xd:Int):=Sa;have uo:Xd < (Ca.length:Int):=Sa;obtain ⟨Nm,Tk,Rk,uD,di,jl,gl,fl,cl,Rj,Tj⟩:=wj Ce.out Xd vo uo;cases uD;replace di:=Qa HB.out di;replace jl:=Qa HB.out jl;replace gl:=Qa HB.out gl;replace fl:=Qa HB.out fl;replace cl:=Qa HB.out cl;have Ro:=ja.mk Tj;have Vv:=ja.mk Rj;clear Tj Rj;replace vo:=eq_true vo;replace uo:=eq_true uo;go_wp2_with (first|((with_reducible refine qb (N:=5) rfl ?_);(try (refine kg (by rfl) ?_;dsimp only));refine Gb ?hg (N:=5) ?hd (cs:=#[.slice none 0 0,.int .i64 0,.int .i64 0,.int .i64 0,.int .i64 0]) (t:=59) ?hr ?_;(case hd=>rfl);(case hg=>rfl);(case hr=>first|(go_simp;done)|(go_simp;rfl));intro Vk hg vI Rb hb;have Eb:=ja.mk (Ta (g:=ya) (o:=.cells #[.slice Wa Oa.length Ya,.int .i64 Ja,.int .i64 Fa,.int .i64 Ia,.slice (some Nm) Ca.length Cb] 30 (0,0)) (by (with_reducible repeat (first|refine Aa ?_ _|refine Da ?_|refine Ba ?_ _));exact oa.out) hb);have Jb:=ja.mk (Na (by repeat (first|(with_reducible first|exact HB.out|apply qa|apply ia|apply ta|refine ua ?_ Ra.out)|exact HB.out)) hb);have Ub:=ja.mk (Rb);have uc:=ja.mk ((by rw [hg];exact (Ga (by repeat (first|(with_reducible first|exact HB.out|apply qa|apply ia|apply ta|refine ua ?_ Ra.out)|exact HB.out))):w.heap.size ≤ Vk));have lf:=ja.mk ((by rw [hg];exact (Ga (by repeat (first|(with_reducible first|exact HB.out|apply qa|apply ia|apply ta|refine ua ?_ Ra.out)|exact HB.out))):w.heap.size ≤ Vk));have Vf:=ja.mk ((by rw [hg];exact Nat.ne_of_lt (Jc (g:=ya) (o:=.cells #[.slice Wa Oa.length Ya,.int .i64 Ja,.int .i64 Fa,.int .i64 Ia,.slice (some Nm) Ca.length Cb] 30 (0,0)) (by (with_reducible repeat (first|refine Aa ?_ _|refine Da ?_|refine Ba ?_ _));exact oa.out)):ya ≠ Vk));have pg:=ja.mk ((by rw [hg];exact Nat.ne_of_gt (Jc (g:=ya) (o:=.cells #[.slice Wa Oa.length Ya,.int .i64 Ja,.int .i64 Fa,.int .i64 Ia,.slice (some Nm) Ca.length Cb] 30 (0,0)) (by (with_reducible repeat (first|refine Aa ?_ _|refine Da ?_|refine Ba ?_ _));exact oa.out)):Vk ≠ ya));clear oa HB;have oa:=Eb;have HB:=Jb;have ij:=Ub;have Cad:=uc;have Mu:=lf;have Vh:=Vf;have LA:=pg;clear Eb Jb Ub uc lf Vf pg hb Rb hg;have Xaq:=LA.out;have raq:=Vh.out;have dz:vI.cell? ⟨Vk,0,none⟩=some (.slice none 0 0):=(ga ij.out 0).trans rfl;have bz:vI.cell? ⟨Vk,1,none⟩=some (.int .i64 0):=(ga ij.out 1).trans rfl;have az:vI.cell? ⟨Vk,2,none⟩=some (.int .i64 0):=(ga ij.out 2).trans rfl;have Zy:vI.cell? ⟨Vk,3,none⟩=some (.int .i64 0):=(ga ij.out 3).trans rfl;have Yy:vI.cell? ⟨Vk,4,none⟩=some (.int .i64 0):=(ga ij.out 4).trans rfl;have Gy:=aa ij.out 0;have Fy:=aa ij.out 1;have Ey:=aa ij.out 2;have Dy:=aa ij.out 3;have Cy:=aa ij.out 4;have KH:vI.cell? ⟨ya,0,none⟩=some (.slice Wa Oa.length Ya):=(ga oa.out 0).trans rfl;have JH:vI.cell? ⟨ya,1,none⟩=some (.int .i64 Ja):=(ga oa.out 1).trans rfl;have GH:vI.cell? ⟨ya,2,none⟩=some (.int .i64 Fa):=(ga oa.out 2).trans rfl;have FH:vI.cell? ⟨ya,3,none⟩=some (.int .i64 Ia):=(ga oa.out 3).trans rfl;have EH:vI.cell? ⟨ya,4,none⟩=some (.slice (some Nm) Ca.length Cb):=(ga oa.out 4).trans rfl;have HG:=aa oa.out 0;have GG:=aa oa.out 1;have FG:=aa oa.out 2;have EG:=aa oa.out 3;have DG:=aa oa.out 4)|((with_reducible refine mb (f:=77) rfl ?_);refine Mc (some 44) rfl rfl Try.func77 (by kernel_rfl) rfl #[.agg #[.slice Wa Oa.length Ya,.int .i64 Ja,.int .i64 Fa,.int .i64 Ia,.slice (some Nm) Ca.length Cb],.agg #[.slice Tk ((Ea Ca Xd).f0).length Rk,.int .i64 ((Ea Ca Xd).f1),.int .i64 ((Ea Ca Xd).f2),.int .i64 ((Ea Ca Xd).f3),.int .i64 ((Ea Ca Xd).f4)]] rfl (by (try simp only [List.map_toArray,List.map_cons,List.map_nil]);first|done|rfl|(simp only [List.length_drop,List.length_take];rfl)) ?_;(with_reducible refine (qj.calls _ _ Oa Ja Fa Ia _ _ Ca _ _ ((Ea Ca Xd).f0) ((Ea Ca Xd).f1) ((Ea Ca Xd).f2) ((Ea Ca Xd).f3) ((Ea Ca Xd).f4) false _ ?dc ?Zb ?Rc ?Qc ?Dn ?Cn A22.out).mono ?_);(case dc=>exact Kd.Db Md.out (by repeat (first|(with_reducible first|exact HB.out|apply qa|apply ia|apply ta|refine ua ?_ Ra.out|refine ua ?_ Mu.out)|exact HB.out)));(case Zb=>exact Rd.out);(case Rc=>exact Kd.Db Ce.out (by repeat (first|(with_reducible first|exact HB.out|apply qa|apply ia|apply ta|refine ua ?_ Ra.out|refine ua ?_ Mu.out)|exact HB.out)));(case Qc=>exact Ff.out);(case Dn=>exact Kd.Db Ro.out (by repeat (first|(with_reducible first|exact HB.out|apply qa|apply ia|apply ta|refine ua ?_ Ra.out|refine ua ?_ Mu.out)|exact HB.out)));(case Cn=>exact Vv.out);rintro e TP ⟨rfl,hb⟩;refine ⟨_,rfl,?_⟩;have Eb:=ja.mk (Ta (g:=ya) (o:=.cells #[.slice Wa Oa.length Ya,.int .i64 Ja,.int .i64 Fa,.int .i64 Ia,.slice (some Nm) Ca.length Cb] 30 (0,0)) (by (with_reducible repeat (first|refine Aa ?_ _|refine Da ?_|refine Ba ?_ _));refine ie ?_ Vh.out _;(with_reducible repeat (first|refine Aa ?_ _|refine Da ?_|refine Ba ?_ _));refine ie ?_ Vh.out _;(with_reducible repeat (first|refine Aa ?_ _|refine Da ?_|refine Ba ?_ _));refine ie ?_ Vh.out _;(with_reducible repeat (first|refine Aa ?_ _|refine Da ?_|refine Ba ?_ _));refine ie ?_ Vh.out _;(with_reducible repeat (first|refine Aa ?_ _|refine Da ?_|refine Ba ?_ _));refine ie ?_ Vh.out _;(with_reducible repeat (first|refine Aa ?_ _|refine Da ?_|refine Ba ?_ _));exact oa.out) hb);have Jb:=ja.mk (Ta (g:=Vk) (o:=.cells #[.slice Tk ((Ea Ca Xd).f0).length Rk,.int .i64 ((Ea Ca Xd).f1),.int .i64 ((Ea Ca Xd).f2),.int .i64 ((Ea Ca Xd).f3),.int .i64 ((Ea Ca Xd).f4)] 59 (0,0)) (by (with_reducible repeat (first|refine Aa ?_ _|refine Da ?_|refine Ba ?_ _));refine fe (cs:=#[.slice Tk ((Ea Ca Xd).f0).length Rk,.int .i64 ((Ea Ca Xd).f1),.int .i64 ((Ea Ca Xd).f2),.int .i64 ((Ea Ca Xd).f3),.int .i64 0]) ?_ 4 _ rfl;(with_reducible repeat (first|refine Aa ?_ _|refine Da ?_|refine Ba ?_ _));refine fe (cs:=#[.slice Tk ((Ea Ca Xd).f0).length Rk,.int .i64 ((Ea Ca Xd).f1),.int .i64 ((Ea Ca Xd).f2),.int .i64 0,.int .i64 0]) ?_ 3 _ rfl;(with_reducible repeat (first|refine Aa ?_ _|refine Da ?_|refine Ba ?_ _));refine fe (cs:=#[.slice Tk ((Ea Ca Xd).f0).length Rk,.int .i64 ((Ea Ca Xd).f1),.int .i64 0,.int .i64 0,.int .i64 0]) ?_ 2 _ rfl;(with_reducible repeat (first|refine Aa ?_ _|refine Da ?_|refine Ba ?_ _));refine fe (cs:=#[.slice Tk ((Ea Ca Xd).f0).length Rk,.int .i64 0,.int .i64 0,.int .i64 0,.int .i64 0]) ?_ 1 _ rfl;(with_reducible repeat (first|refine Aa ?_ _|refine Da ?_|refine Ba ?_ _));refine fe (cs:=#[.slice none 0 0,.int .i64 0,.int .i64 0,.int .i64 0,.int .i64 0]) ?_ 0 _ rfl;(with_reducible repeat (first|refine Aa ?_ _|refine Da ?_|refine Ba ?_ _));exact ij.out) hb);have Ub:=ja.mk (Na (by repeat (first|(with_reducible first|exact HB.out|apply qa|apply ia|apply ta|refine ua ?_ Ra.out|refine ua ?_ Mu.out)|exact HB.out)) hb);clear oa ij HB;have oa:=Eb;have ij:=Jb;have HB:=Ub;clear Eb Jb Ub;(try clear hb);(try clear ni);(try clear hk);(try clear hi)));go_ret;exact ⟨by first|rfl|(simp [Ma,La] <;> rfl)|(simp [*,Ma,La] <;> rfl),by repeat (first|(with_reducible first|exact HB.out|apply qa|apply ia|apply ta|refine ua ?_ Ra.out|refine ua ?_ Mu.out)|exact HB.out)⟩
        ·rw [if_neg Vr] at H;exact absurd H (by simp)
       ·rw [if_neg Mn] at H;exact absurd H (by simp)
      ·rw [if_neg Xk] at H;have fu:decide (Xd < (Ca.length:Int))=false:=decide_eq_false Xk;clear Xk;obtain rfl:=Option.some.inj H;go_wp2;go_ret;exact ⟨by first|rfl|(simp [Ma,La] <;> rfl)|(simp [*,Ma,La] <;> rfl),by repeat (first|(with_reducible first|exact HB.out|apply qa|apply ia|apply ta|refine ua ?_ Ra.out)|exact HB.out)⟩
def Wd.l0:Nat→List Int→List Bool→Int→Int→Option (List Int)
 | 0,_,_,_,_=>none
 | k + 1,x3,x7,x8,x9=>if x9 < x8 then (if 0 ≤ x9 then (if x9 < (x7.length:Int) then (if Pf false x7 x9=true then (if x3.length < 17592186044416 then (Wd.l0 k (x3 ++ [x9]) x7 x8 (wrap64 (x9 + 1))) else (none)) else (Wd.l0 k x3 x7 x8 (wrap64 (x9 + 1)))) else (none)) else (none)) else (some x3)
def Wd.f (k:Nat) (l0:List Bool):Option (List Int):=Wd.l0 k (([]:List Int)) l0 (l0.length:Int) 0
theorem Wd.calls (k:Nat) (A0:Option Addr) (c0:Nat) (l0:List Bool) (r:List Int) (w:World) (vm:Kd.C Kd.bool w A0 l0.length l0) (hc0:l0.length ≤ c0) (h:Wd.f k l0=some r) :
  Calls Try.prog 48 #[.slice A0 l0.length c0] w fun e w'=>∃ Bn:Value,e = .returned (Bn)∧Kd.R (Kd.int .i64) 3 w' w.heap.size (fun _=>True) Bn r∧Below w.heap.size w w':=by
 have Xp:=ja.mk vm;have dK:=ja.mk hc0;clear vm hc0;have HB:=ja.mk (Below.refl w.heap.size w);have H:(Wd.l0 k (([]:List Int)) l0 (l0.length:Int) 0)=some r:=h;clear h;obtain ⟨zn,Ei⟩:∃ y_:List Int,y_=(([]:List Int)):=⟨_,rfl⟩;replace H:(Wd.l0 k zn l0 (l0.length:Int) 0)=some r:=by first|(rw [Ei];with_reducible exact H)|(have Ie:=(Option.bind_some _ _).symm.trans H;rw [Ei];with_reducible exact Ie)|(have Ie:=(Option.bind_some _ _).symm.trans H;with_reducible exact Ie)|with_reducible exact H|(rw [Ei];exact H)|exact H
 have nr:=ja.mk Ei;clear Ei;have H':=ja.mk H;clear H;go_enter Try.func48,Try.ntmps48;go_wp2_with (first|((with_reducible refine qb (N:=6) rfl ?_);refine Kd.Bk (Kd.int .i64) _ 3 ?hg (N:=6) ?hd (xs:=([]:List Int)) (inner:=[]) (ok:=fun _=>True) (Sh:=fun _=>True) ?hr ?hp (fun _ hk=>hk) trivial (Below.refl _ _) (Nat.le_refl _) (by simp) ?_;(case hd=>rfl);(case hg=>rfl);(case hr=>first|(go_simp;done)|(go_simp;rfl));(case hp=>exact (Ed.none _ _));intro jK w2 W7 hb Vn yf;clear Vn yf;(first|rw [← nr.out] at W7|(simp only [Int.reduceToNat] at W7;rw [← nr.out] at W7));have Eb:=ja.mk (Kd.Qd W7 (Ga (by repeat (first|(with_reducible first|exact HB.out|apply qa|apply ia|apply ta)|exact HB.out))));have Jb:=ja.mk (Na (by repeat (first|(with_reducible first|exact HB.out|apply qa|apply ia|apply ta)|exact HB.out)) hb);clear HB;have Ju:=Eb;have HB:=Jb;clear Eb Jb hb W7))
 go_loopg [3,9] k (fun kq v3 v9 w'=>∃ (ye:List Int) (Bg:Int),v9 = .int .i64 Bg∧ja (Wd.l0 kq ye l0 (l0.length:Int) Bg=some r)∧ja (kq ≤ k)∧ja (Kd.R (Kd.int .i64) 3 w' w.heap.size (fun _=>True) v3 ye)∧ja (Below w.heap.size w w'))
 case atStart=>exact ⟨(zn),(0),(by first|rfl|(simp;done)|(simp [*];done)),H',⟨Nat.le_refl _⟩,⟨by (with_reducible repeat (first|apply Kd.yb|apply Kd.xb|apply Kd.Pb));exact Ju.out⟩,⟨by repeat (first|(with_reducible first|exact HB.out|apply qa|apply ia|apply ta)|exact HB.out)⟩⟩
 case round =>
  clear H'
  try clear p2
  (try clear HA);(try clear Rh);(try clear qd);(try clear HB);obtain ⟨ye,Bg,rfl,HA,Rh,qd,HB⟩:=hrel;cases gk with
  | zero=>exact absurd HA.out (by simp [Wd.l0])
  | succ k1 =>
   have H:=HA.out;clear HA;simp only [Wd.l0] at H
   by_cases c4:Bg < (l0.length:Int)
   ·rw [if_pos c4] at H;have Fl:decide (Bg < (l0.length:Int))=true:=decide_eq_true c4;clear c4
    by_cases c5:0 ≤ Bg
    ·rw [if_pos c5] at H;have ak:decide (0 ≤ Bg)=true:=decide_eq_true c5;clear c5
     by_cases c6:Bg < (l0.length:Int)
     ·rw [if_pos c6] at H;have Mm:decide (Bg < (l0.length:Int))=true:=decide_eq_true c6;clear c6;obtain ⟨bq7,F2⟩:∃ b_:Bool,b_=(Pf false l0 Bg):=⟨_,rfl⟩;replace H:(if bq7=true then (if ye.length < 17592186044416 then (Wd.l0 k1 (ye ++ [Bg]) l0 (l0.length:Int) (wrap64 (Bg + 1))) else (none)) else (Wd.l0 k1 ye l0 (l0.length:Int) (wrap64 (Bg + 1))))=some r:=by rw [← F2] at H;exact H
      have Bac:=ja.mk F2;clear F2
      by_cases c8:bq7=true
      ·subst c8;have H1:(if ye.length < 17592186044416 then (Wd.l0 k1 (ye ++ [Bg]) l0 (l0.length:Int) (wrap64 (Bg + 1))) else (none))=some r:=by rw [if_pos rfl] at H;exact H
       clear H;have H:=H1;clear H1
       by_cases c9:ye.length < 17592186044416
       ·rw [if_pos c9] at H;have N4:=ja.mk c9;clear c9;obtain ⟨Gh,Jf⟩:∃ y_:List Int,y_=(ye ++ [Bg]):=⟨_,rfl⟩;replace H:(Wd.l0 k1 Gh l0 (l0.length:Int) (wrap64 (Bg + 1)))=some r:=by first|(rw [Jf];with_reducible exact H)|(have Ie:=(Option.bind_some _ _).symm.trans H;rw [Jf];with_reducible exact Ie)|(have Ie:=(Option.bind_some _ _).symm.trans H;with_reducible exact Ie)|with_reducible exact H|(rw [Jf];exact H)|exact H
        have Il:=ja.mk Jf;clear Jf;have H':=ja.mk H;clear H;have Rs:0 ≤ (Bg:Int):=Sa;have Ns:Bg < (l0.length:Int):=Sa;obtain ⟨tP,XH,Si⟩:=Kd.Bh Xp.out Bg Rs Ns;(try rw [← Bac.out] at Si);cases XH;replace Si:=Qa HB.out Si;replace Rs:=eq_true Rs;replace Ns:=eq_true Ns;go_wp2_with (first|((with_reducible refine ee (b:=.append) (xs:=#[.tmp 15,.tmp 17]) rfl ?_);at_builtin;refine Kd.ai (Kd.int .i64) (w0:=w) w.heap.size rfl (.tmp 15) (.tmp 17) 22 3 (.int .i64 0) 8 rfl Try.underlying22 info3 rfl (by decide) (by omega) u3 ye Bg [.int .i64 Bg] (fun _=>True) (fun _=>False) rfl rfl ?aP (fun _ hk=>hk.elim) ?aF ?aO ?aB ?aS ?aL ?_;(case aP=>exact rfl);(case aB=>exact (by repeat (first|(with_reducible first|exact HB.out|apply qa|apply ia|apply ta)|exact HB.out)));(case aF=>exact (fun _ _=>trivial));(case aO=>exact (by (with_reducible repeat (first|apply Kd.yb|apply Kd.xb|apply Kd.Pb));exact qd.out));(case aS=>exact (Ga (by repeat (first|(with_reducible first|exact HB.out|apply qa|apply ia|apply ta)|exact HB.out))));(case aL=>have:=N4.out;omega);intro Qz Fs ho hb hg hat;rw [← Il.out] at ho;have Eb:=ja.mk (hb);have Jb:=ja.mk (ho);clear HB qd;have HB:=Eb;have Hi:=Jb;clear Eb Jb ho hb hg hat))
        go_roundg k1
        case measure=>have:=Rh.out;omega
        case rel=>exact ⟨(Gh),(wrap64 (Bg + 1)),(by first|rfl|(simp;done)|(simp [*];done)),H',⟨by have:=Rh.out;omega⟩,⟨by (with_reducible repeat (first|apply Kd.yb|apply Kd.xb|apply Kd.Pb));exact Hi.out⟩,⟨by repeat (first|(with_reducible first|exact HB.out|apply qa|apply ia|apply ta)|exact HB.out)⟩⟩
       ·rw [if_neg c9] at H;exact absurd H (by simp)
      ·replace c8:=Bool.eq_false_iff.mpr c8;subst c8;have H1:(Wd.l0 k1 ye l0 (l0.length:Int) (wrap64 (Bg + 1)))=some r:=by rw [if_neg (show ¬ (false=true) by decide)] at H;exact H
       clear H;have H:=H1;clear H1;have H':=ja.mk H;clear H;have Rs:0 ≤ (Bg:Int):=Sa;have Ns:Bg < (l0.length:Int):=Sa;obtain ⟨tP,XH,Si⟩:=Kd.Bh Xp.out Bg Rs Ns;(try rw [← Bac.out] at Si);cases XH;replace Si:=Qa HB.out Si;replace Rs:=eq_true Rs;replace Ns:=eq_true Ns;go_wp2
       go_roundg k1
       case measure=>have:=Rh.out;omega
       case rel=>exact ⟨(ye),(wrap64 (Bg + 1)),(by first|rfl|(simp;done)|(simp [*];done)),H',⟨by have:=Rh.out;omega⟩,⟨by (with_reducible repeat (first|apply Kd.yb|apply Kd.xb|apply Kd.Pb));exact qd.out⟩,⟨by repeat (first|(with_reducible first|exact HB.out|apply qa|apply ia|apply ta)|exact HB.out)⟩⟩
     ·rw [if_neg c6] at H;exact absurd H (by simp)
    ·rw [if_neg c5] at H;exact absurd H (by simp)
   ·rw [if_neg c4] at H;have Fl:decide (Bg < (l0.length:Int))=false:=decide_eq_false c4;clear c4;obtain rfl:=Option.some.inj H;go_wp2;go_ret;exact ⟨_,by first|rfl|(simp [Ma,La] <;> rfl)|(simp [*,Ma,La] <;> rfl),by (with_reducible repeat (first|apply Kd.yb|apply Kd.xb|apply Kd.Pb));exact qd.out,by repeat (first|(with_reducible first|exact HB.out|apply qa|apply ia|apply ta)|exact HB.out)⟩
def Ji.f (Nb:Int) (Ja:Int) (Fa:Int) (Ia:Int) (zb:Int) (qc:Int) (nc:ByteArray):Option (Int):=if Nb=4 then (some (-1)) else (if Nb=6 then (some (-1)) else (some Ja))
theorem Ji.calls (Nb:Int) (Ja:Int) (Fa:Int) (Ia:Int) (zb:Int) (qc:Int) (nc:ByteArray) (r:Int) (w:World) (h:Ji.f Nb Ja Fa Ia zb qc nc=some r) :
  Calls Try.prog 87 #[.agg #[.int .i64 Nb,.int .i64 Ja,.int .i64 Fa,.int .i64 Ia,.int .i64 zb,.int .i64 qc,.string nc]] w fun e w'=>e = .returned (.int .i64 r)∧Below w.heap.size w w':=by
 have Yz:=Try.underlying65;have HB:=ja.mk (Below.refl w.heap.size w);have H:(if Nb=4 then (some (-1)) else (if Nb=6 then (some (-1)) else (some Ja)))=some r:=h;clear h
 by_cases c2:Nb=4
 ·rw [if_pos c2] at H;have DA:(Nb == 4)=true:=beq_iff_eq.mpr c2;have CA:(Nb != 4)=false:=bne_eq_false_iff_eq.mpr c2;clear c2;obtain rfl:=Option.some.inj H;go_enter Try.func87,Try.ntmps87;go_wp2_with (first|((with_reducible refine qb (N:=1) rfl ?_);refine Gb ?hg (N:=1) ?hd (cs:=#[.int .i64 Nb,.int .i64 Ja,.int .i64 Fa,.int .i64 Ia,.int .i64 zb,.int .i64 qc,.string nc]) (t:=65) ?hr ?_;(case hd=>rfl);(case hg=>rfl);(case hr=>first|(go_simp;done)|(go_simp;rfl));intro ya hg w3 Rb hb;have Eb:=ja.mk (Na (by repeat (first|(with_reducible first|exact HB.out|apply qa|apply ia|apply ta)|exact HB.out)) hb);have Jb:=ja.mk (Rb);have Ub:=ja.mk ((by rw [hg];exact (Ga (by repeat (first|(with_reducible first|exact HB.out|apply qa|apply ia|apply ta)|exact HB.out))):w.heap.size ≤ ya));have uc:=ja.mk ((by rw [hg];exact (Ga (by repeat (first|(with_reducible first|exact HB.out|apply qa|apply ia|apply ta)|exact HB.out))):w.heap.size ≤ ya));clear HB;have HB:=Eb;have oa:=Jb;have xd:=Ub;have Ra:=uc;clear Eb Jb Ub uc hb Rb hg;have wA:w3.cell? ⟨ya,0,none⟩=some (.int .i64 Nb):=(ga oa.out 0).trans rfl;have vA:w3.cell? ⟨ya,1,none⟩=some (.int .i64 Ja):=(ga oa.out 1).trans rfl;have uA:w3.cell? ⟨ya,2,none⟩=some (.int .i64 Fa):=(ga oa.out 2).trans rfl;have tA:w3.cell? ⟨ya,3,none⟩=some (.int .i64 Ia):=(ga oa.out 3).trans rfl;have sA:w3.cell? ⟨ya,4,none⟩=some (.int .i64 zb):=(ga oa.out 4).trans rfl;have TG:w3.cell? ⟨ya,5,none⟩=some (.int .i64 qc):=(ga oa.out 5).trans rfl;have SG:w3.cell? ⟨ya,6,none⟩=some (.string nc):=(ga oa.out 6).trans rfl;have jA:=aa oa.out 0;have iA:=aa oa.out 1;have gA:=aa oa.out 2;have fA:=aa oa.out 3;have eA:=aa oa.out 4;have RF:=aa oa.out 5;have QF:=aa oa.out 6));go_ret;exact ⟨by first|rfl|(simp [Ma,La] <;> rfl)|(simp [*,Ma,La] <;> rfl),by repeat (first|(with_reducible first|exact HB.out|apply qa|apply ia|apply ta|refine ua ?_ Ra.out)|exact HB.out)⟩
 ·rw [if_neg c2] at H;have DA:(Nb == 4)=false:=beq_eq_false_iff_ne.mpr c2;have CA:(Nb != 4)=true:=bne_iff_ne.mpr c2
  by_cases c5:Nb=6
  ·rw [if_pos c5] at H;have ak:(Nb == 6)=true:=beq_iff_eq.mpr c5;have BA:(Nb != 6)=false:=bne_eq_false_iff_eq.mpr c5;clear c5;obtain rfl:=Option.some.inj H;go_enter Try.func87,Try.ntmps87;go_wp2_with (first|((with_reducible refine qb (N:=1) rfl ?_);refine Gb ?hg (N:=1) ?hd (cs:=#[.int .i64 Nb,.int .i64 Ja,.int .i64 Fa,.int .i64 Ia,.int .i64 zb,.int .i64 qc,.string nc]) (t:=65) ?hr ?_;(case hd=>rfl);(case hg=>rfl);(case hr=>first|(go_simp;done)|(go_simp;rfl));intro ya hg w6 Rb hb;have Eb:=ja.mk (Na (by repeat (first|(with_reducible first|exact HB.out|apply qa|apply ia|apply ta)|exact HB.out)) hb);have Jb:=ja.mk (Rb);have Ub:=ja.mk ((by rw [hg];exact (Ga (by repeat (first|(with_reducible first|exact HB.out|apply qa|apply ia|apply ta)|exact HB.out))):w.heap.size ≤ ya));have uc:=ja.mk ((by rw [hg];exact (Ga (by repeat (first|(with_reducible first|exact HB.out|apply qa|apply ia|apply ta)|exact HB.out))):w.heap.size ≤ ya));clear HB;have HB:=Eb;have oa:=Jb;have xd:=Ub;have Ra:=uc;clear Eb Jb Ub uc hb Rb hg;have Ak:w6.cell? ⟨ya,0,none⟩=some (.int .i64 Nb):=(ga oa.out 0).trans rfl;have zk:w6.cell? ⟨ya,1,none⟩=some (.int .i64 Ja):=(ga oa.out 1).trans rfl;have xk:w6.cell? ⟨ya,2,none⟩=some (.int .i64 Fa):=(ga oa.out 2).trans rfl;have vk:w6.cell? ⟨ya,3,none⟩=some (.int .i64 Ia):=(ga oa.out 3).trans rfl;have uk:w6.cell? ⟨ya,4,none⟩=some (.int .i64 zb):=(ga oa.out 4).trans rfl;have MG:w6.cell? ⟨ya,5,none⟩=some (.int .i64 qc):=(ga oa.out 5).trans rfl;have LG:w6.cell? ⟨ya,6,none⟩=some (.string nc):=(ga oa.out 6).trans rfl;have qk:=aa oa.out 0;have nk:=aa oa.out 1;have jk:=aa oa.out 2;have fk:=aa oa.out 3;have ek:=aa oa.out 4;have JF:=aa oa.out 5;have GF:=aa oa.out 6));go_ret;exact ⟨by first|rfl|(simp [Ma,La] <;> rfl)|(simp [*,Ma,La] <;> rfl),by repeat (first|(with_reducible first|exact HB.out|apply qa|apply ia|apply ta|refine ua ?_ Ra.out)|exact HB.out)⟩
  ·rw [if_neg c5] at H;have ak:(Nb == 6)=false:=beq_eq_false_iff_ne.mpr c5;have BA:(Nb != 6)=true:=bne_iff_ne.mpr c5;obtain rfl:=Option.some.inj H;go_enter Try.func87,Try.ntmps87;go_wp2_with (first|((with_reducible refine qb (N:=1) rfl ?_);refine Gb ?hg (N:=1) ?hd (cs:=#[.int .i64 Nb,.int .i64 Ja,.int .i64 Fa,.int .i64 Ia,.int .i64 zb,.int .i64 qc,.string nc]) (t:=65) ?hr ?_;(case hd=>rfl);(case hg=>rfl);(case hr=>first|(go_simp;done)|(go_simp;rfl));intro ya hg w8 Rb hb;have Eb:=ja.mk (Na (by repeat (first|(with_reducible first|exact HB.out|apply qa|apply ia|apply ta)|exact HB.out)) hb);have Jb:=ja.mk (Rb);have Ub:=ja.mk ((by rw [hg];exact (Ga (by repeat (first|(with_reducible first|exact HB.out|apply qa|apply ia|apply ta)|exact HB.out))):w.heap.size ≤ ya));have uc:=ja.mk ((by rw [hg];exact (Ga (by repeat (first|(with_reducible first|exact HB.out|apply qa|apply ia|apply ta)|exact HB.out))):w.heap.size ≤ ya));clear HB;have HB:=Eb;have oa:=Jb;have xd:=Ub;have Ra:=uc;clear Eb Jb Ub uc hb Rb hg;have Vg:w8.cell? ⟨ya,0,none⟩=some (.int .i64 Nb):=(ga oa.out 0).trans rfl;have Ug:w8.cell? ⟨ya,1,none⟩=some (.int .i64 Ja):=(ga oa.out 1).trans rfl;have Tg:w8.cell? ⟨ya,2,none⟩=some (.int .i64 Fa):=(ga oa.out 2).trans rfl;have Sg:w8.cell? ⟨ya,3,none⟩=some (.int .i64 Ia):=(ga oa.out 3).trans rfl;have Rg:w8.cell? ⟨ya,4,none⟩=some (.int .i64 zb):=(ga oa.out 4).trans rfl;have C2:w8.cell? ⟨ya,5,none⟩=some (.int .i64 qc):=(ga oa.out 5).trans rfl;have B2:w8.cell? ⟨ya,6,none⟩=some (.string nc):=(ga oa.out 6).trans rfl;have Qg:=aa oa.out 0;have Pg:=aa oa.out 1;have Og:=aa oa.out 2;have Ng:=aa oa.out 3;have Mg:=aa oa.out 4;have N1:=aa oa.out 5;have L1:=aa oa.out 6));go_ret;exact ⟨by first|rfl|(simp [Ma,La] <;> rfl)|(simp [*,Ma,La] <;> rfl),by repeat (first|(with_reducible first|exact HB.out|apply qa|apply ia|apply ta|refine ua ?_ Ra.out)|exact HB.out)⟩
end Go.Proofs.Ytkigbdceceeenaa.P
end
