import Derived.Test.YtmifdccaajngcaaProg
import Derived.Below
import Derived.Deep.Draws
import Derived.Deep.AppendLies
import Derived.Maps.AppendAt
import Derived.OwnWalk
import Derived.Laws.BytesArg
import Derived.Laws.MakeOwn
import Derived.Laws.OwnMore
import Derived.Deep.OwnRows
import Derived.Tactics
import Derived.Lib.ConvBytes
import Derived.Laws.Slices
import Derived.WalkKit
import Derived.KernelRfl
import Derived.RowKit3
import Derived.Deep.LoopGhost
import Derived.Deep.QuietTactic
import Derived.BigQuiet
import Derived.WideLaws
import Derived.Deep.DeepCutAuto
import Derived.Deep.CutBlock
import Derived.Deep.RegionHeld3
import Derived.Laws.Rows
import Derived.Lib.AppendStr
import Derived.ArgAppend
import Derived.Laws.IdiomCopy
import Derived.OrdersHeld
import Derived.Laws.BitsLemmas
import Derived.RowKit
import Derived.Test.YtmifdccaajngcaaQPlacesW1
import Derived.Deep.Slices
import Derived.ChangeArms
import Derived.OpenShut
import Derived.WideShapes
set_option maxHeartbeats 8000000
set_option maxRecDepth 100000
section
namespace Go.Proofs.Ytmifdccaajngcaa.P
open Go.RowKit Go.Proofs.Sa.Ec Go.Proofs.Sa.Bf Go.Proofs.Sa.Yg
set_option linter.unusedVariables false
set_option linter.unusedSimpArgs false
attribute [local go_sem] Jk Gk ym xm Gj Fj Ik Fk
def D1:Option Int→Value
 | none=>.nilIface
 | some c=>.iface 0 (.int .i64 c)
theorem La:D1 none = .nilIface:=rfl
theorem Ka (c:Int):D1 (some c) = .iface 0 (.int .i64 c):=rfl
theorem info3:(Try.prog.info? 3).map (fun i=>(i.zero,i.size,i.bytes))=some (some (.int .i64 0),1,8):=by kernel_rfl
theorem RS:(Try.prog.info? 68).map (fun i=>(i.zero,i.size,i.bytes))=some (some (.agg #[(.slice none 0 0),(.int .i64 0),(.int .i64 0),(.int .i64 0),(.int .i64 0)]),5,56):=by kernel_rfl
theorem QS:(Try.prog.info? 70).map (fun i=>(i.zero,i.size,i.bytes))=some (some (.agg #[(.int .i64 0),(.int .i64 0),(.int .i64 0),(.int .i64 0),(.int .i64 0),(.int .i64 0),(.string ⟨#[]⟩)]),7,64):=by kernel_rfl
theorem PS:(Try.prog.info? 77).map (fun i=>(i.zero,i.size,i.bytes))=some (some (.agg #[(.int .i64 0),(.int .i64 0)]),2,16):=by kernel_rfl
theorem NS:(Try.prog.info? 79).map (fun i=>(i.zero,i.size,i.bytes))=some (some (.agg #[(.int .i64 0),(.int .i64 0)]),2,16):=by kernel_rfl
theorem KG:(Try.prog.info? 103).map (fun i=>(i.zero,i.size,i.bytes))=some (some (.agg #[(.int .i64 0),(.int .i64 0),(.int .i64 0),(.int .i64 0)]),4,32):=by kernel_rfl
structure S7 where
 f0:Int
 f1:Int
 f2:Bool
 f3:Int
def z7:S7:=⟨(0:Int),(0:Int),false,(0:Int)⟩
structure S8 where
 f0:Int
 f1:Int
 f2:Bool
 f3:Int
def z8:S8:=⟨(0:Int),(0:Int),false,(0:Int)⟩
structure Km where
 f0:Int
 f1:Int
 f2:Int
 f3:Int
 f4:Int
 f5:Int
 f6:ByteArray
def vV:Km:=⟨(0:Int),(0:Int),(0:Int),(0:Int),(0:Int),(0:Int),(⟨#[]⟩:ByteArray)⟩
def ez:Kd Km:=Kd.JG (Kd.pair (Kd.int .i64) (Kd.pair (Kd.int .i64) (Kd.pair (Kd.int .i64) (Kd.pair (Kd.int .i64) (Kd.pair (Kd.int .i64) (Kd.pair (Kd.int .i64) Kd.string)))))) (fun x:Km=>(x.f0,x.f1,x.f2,x.f3,x.f4,x.f5,x.f6))
theorem LJ {w:World} {x:Km} {cs:List Value} (h:ez.K w x cs):cs=[.int .i64 x.f0,.int .i64 x.f1,.int .i64 x.f2,.int .i64 x.f3,.int .i64 x.f4,.int .i64 x.f5,.string x.f6]:=by
 obtain ⟨_,_,rfl,rfl,⟨_,_,rfl,rfl,⟨_,_,rfl,rfl,⟨_,_,rfl,rfl,⟨_,_,rfl,rfl,⟨_,_,rfl,rfl,rfl⟩⟩⟩⟩⟩⟩:=h
 exact rfl
def yd (xs:List Km) (i:Int):Km:=xs.getD i.toNat vV
theorem bD {w:World} {A:Option Addr} {n:Nat} {xs:List Km} (h:Kd.C ez w A n xs) (i:Int) (h0:0 ≤ i) (h1:i < n):∃ ad , A=some ad∧w.cell? (ad.add (i.toNat * 7))=some (.int .i64 (yd xs i).f0)∧w.cell? ⟨(ad.add (i.toNat * 7)).block,(ad.add (i.toNat * 7)).off + 1,none⟩=some (.int .i64 (yd xs i).f1)∧w.cell? ⟨(ad.add (i.toNat * 7)).block,(ad.add (i.toNat * 7)).off + 2,none⟩=some (.int .i64 (yd xs i).f2)∧w.cell? ⟨(ad.add (i.toNat * 7)).block,(ad.add (i.toNat * 7)).off + 3,none⟩=some (.int .i64 (yd xs i).f3)∧w.cell? ⟨(ad.add (i.toNat * 7)).block,(ad.add (i.toNat * 7)).off + 4,none⟩=some (.int .i64 (yd xs i).f4)∧w.cell? ⟨(ad.add (i.toNat * 7)).block,(ad.add (i.toNat * 7)).off + 5,none⟩=some (.int .i64 (yd xs i).f5)∧w.cell? ⟨(ad.add (i.toNat * 7)).block,(ad.add (i.toNat * 7)).off + 6,none⟩=some (.string (yd xs i).f6):=by
 obtain ⟨ad,c,e,_,hK,hc0⟩:=Kd.jx h vV i h0 h1
 have hc:∀ j u,c[j]? = some u→w.cell? (ad.add (i.toNat * 7 + j))=some u:=hc0
 obtain rfl:=LJ hK
 exact ⟨ad,e,hc 0 _ rfl,by rw [← Af _ _ 1 (by omega)];exact hc 1 _ rfl,by rw [← Af _ _ 2 (by omega)];exact hc 2 _ rfl,by rw [← Af _ _ 3 (by omega)];exact hc 3 _ rfl,by rw [← Af _ _ 4 (by omega)];exact hc 4 _ rfl,by rw [← Af _ _ 5 (by omega)];exact hc 5 _ rfl,by rw [← Af _ _ 6 (by omega)];exact hc 6 _ rfl⟩
structure Dl where
 f0:(List Km)
 f1:Int
 f2:Int
 f3:Int
 f4:Int
def wV:Dl:=⟨([]:List Km),(0:Int),(0:Int),(0:Int),(0:Int)⟩
def fz:Kd Dl:=Kd.JG (Kd.pair (Kd.slice 161 ez) (Kd.pair (Kd.int .i64) (Kd.pair (Kd.int .i64) (Kd.pair (Kd.int .i64) (Kd.int .i64))))) (fun x:Dl=>(x.f0,x.f1,x.f2,x.f3,x.f4))
theorem MJ {w:World} {x:Dl} {cs:List Value} (h:fz.K w x cs):∃ A0 c0,cs=[.slice A0 x.f0.length c0,.int .i64 x.f1,.int .i64 x.f2,.int .i64 x.f3,.int .i64 x.f4]∧x.f0.length ≤ c0∧ez.C w A0 x.f0.length x.f0:=by
 obtain ⟨_,_,rfl,⟨A0,c0,rfl,l0,g0⟩,⟨_,_,rfl,rfl,⟨_,_,rfl,rfl,⟨_,_,rfl,rfl,rfl⟩⟩⟩⟩:=h
 exact ⟨A0,c0,rfl,l0,g0⟩
def De (xs:List Dl) (i:Int):Dl:=xs.getD i.toNat wV
theorem cD {w:World} {A:Option Addr} {n:Nat} {xs:List Dl} (h:Kd.C fz w A n xs) (i:Int) (h0:0 ≤ i) (h1:i < n):∃ ad A0 c0,A=some ad∧w.cell? (ad.add (i.toNat * 5))=some (.slice A0 (De xs i).f0.length c0)∧w.cell? ⟨(ad.add (i.toNat * 5)).block,(ad.add (i.toNat * 5)).off + 1,none⟩=some (.int .i64 (De xs i).f1)∧w.cell? ⟨(ad.add (i.toNat * 5)).block,(ad.add (i.toNat * 5)).off + 2,none⟩=some (.int .i64 (De xs i).f2)∧w.cell? ⟨(ad.add (i.toNat * 5)).block,(ad.add (i.toNat * 5)).off + 3,none⟩=some (.int .i64 (De xs i).f3)∧w.cell? ⟨(ad.add (i.toNat * 5)).block,(ad.add (i.toNat * 5)).off + 4,none⟩=some (.int .i64 (De xs i).f4)∧(De xs i).f0.length ≤ c0∧ez.C w A0 (De xs i).f0.length (De xs i).f0:=by
 obtain ⟨ad,c,e,_,hK,hc0⟩:=Kd.jx h wV i h0 h1
 have hc:∀ j u,c[j]? = some u→w.cell? (ad.add (i.toNat * 5 + j))=some u:=hc0
 obtain ⟨A0,c0,rfl,l0,g0⟩:=MJ hK
 exact ⟨ad,A0,c0,e,hc 0 _ rfl,by rw [← Af _ _ 1 (by omega)];exact hc 1 _ rfl,by rw [← Af _ _ 2 (by omega)];exact hc 2 _ rfl,by rw [← Af _ _ 3 (by omega)];exact hc 3 _ rfl,by rw [← Af _ _ 4 (by omega)];exact hc 4 _ rfl,l0,g0⟩
structure oV where
 f0:(List Int)
 f1:Int
 f2:Int
 f3:Int
 f4:(List Dl)
def k25:Kd oV:=Kd.JG (Kd.pair (Kd.slice 3 (Kd.int .i64)) (Kd.pair (Kd.int .i64) (Kd.pair (Kd.int .i64) (Kd.pair (Kd.int .i64) (Kd.slice 118 fz))))) (fun x:oV=>(x.f0,x.f1,x.f2,x.f3,x.f4))
theorem SK {w:World} {x:oV} {cs:List Value} (h:k25.K w x cs):∃ A0 c0 A4 c4,cs=[.slice A0 x.f0.length c0,.int .i64 x.f1,.int .i64 x.f2,.int .i64 x.f3,.slice A4 x.f4.length c4]∧x.f0.length ≤ c0∧(Kd.int .i64).C w A0 x.f0.length x.f0∧x.f4.length ≤ c4∧fz.C w A4 x.f4.length x.f4:=by
 obtain ⟨_,_,rfl,⟨A0,c0,rfl,l0,g0⟩,⟨_,_,rfl,rfl,⟨_,_,rfl,rfl,⟨_,_,rfl,rfl,⟨A4,c4,rfl,l4,g4⟩⟩⟩⟩⟩:=h
 exact ⟨A0,c0,A4,c4,rfl,l0,g0,l4,g4⟩
structure yf where
 f0:Int
 f1:Int
 f2:Int
 f3:Int
 f4:Int
 f5:Int
 f6:ByteArray
def Ws:yf:=⟨(0:Int),(0:Int),(0:Int),(0:Int),(0:Int),(0:Int),(⟨#[]⟩:ByteArray)⟩
def Uj:Kd yf:=Kd.JG (Kd.pair (Kd.int .i64) (Kd.pair (Kd.int .i64) (Kd.pair (Kd.int .i64) (Kd.pair (Kd.int .i64) (Kd.pair (Kd.int .i64) (Kd.pair (Kd.int .i64) Kd.string)))))) (fun x:yf=>(x.f0,x.f1,x.f2,x.f3,x.f4,x.f5,x.f6))
theorem QK {w:World} {x:yf} {cs:List Value} (h:Uj.K w x cs):cs=[.int .i64 x.f0,.int .i64 x.f1,.int .i64 x.f2,.int .i64 x.f3,.int .i64 x.f4,.int .i64 x.f5,.string x.f6]:=by
 obtain ⟨_,_,rfl,rfl,⟨_,_,rfl,rfl,⟨_,_,rfl,rfl,⟨_,_,rfl,rfl,⟨_,_,rfl,rfl,⟨_,_,rfl,rfl,rfl⟩⟩⟩⟩⟩⟩:=h
 exact rfl
theorem yh {w:World} {base:Nat} {ok:Nat→Prop} {x:yf} {cs:List Value} (h:Uj.M w base ok x cs):cs=[.int .i64 x.f0,.int .i64 x.f1,.int .i64 x.f2,.int .i64 x.f3,.int .i64 x.f4,.int .i64 x.f5,.string x.f6]:=by
 obtain ⟨_,_,rfl,rfl,⟨_,_,rfl,rfl,⟨_,_,rfl,rfl,⟨_,_,rfl,rfl,⟨_,_,rfl,rfl,⟨_,_,rfl,rfl,rfl⟩⟩⟩⟩⟩⟩:=h
 exact rfl
theorem Sm (w:World) (base:Nat) (ok:Nat→Prop) (x:yf)  : Uj.M w base ok x [.int .i64 x.f0,.int .i64 x.f1,.int .i64 x.f2,.int .i64 x.f3,.int .i64 x.f4,.int .i64 x.f5,.string x.f6]:=⟨[.int .i64 x.f0],[.int .i64 x.f1,.int .i64 x.f2,.int .i64 x.f3,.int .i64 x.f4,.int .i64 x.f5,.string x.f6],rfl,rfl,⟨[.int .i64 x.f1],[.int .i64 x.f2,.int .i64 x.f3,.int .i64 x.f4,.int .i64 x.f5,.string x.f6],rfl,rfl,⟨[.int .i64 x.f2],[.int .i64 x.f3,.int .i64 x.f4,.int .i64 x.f5,.string x.f6],rfl,rfl,⟨[.int .i64 x.f3],[.int .i64 x.f4,.int .i64 x.f5,.string x.f6],rfl,rfl,⟨[.int .i64 x.f4],[.int .i64 x.f5,.string x.f6],rfl,rfl,⟨[.int .i64 x.f5],[.string x.f6],rfl,rfl,rfl⟩⟩⟩⟩⟩⟩
def Ea (xs:List yf) (i:Int):yf:=xs.getD i.toNat Ws
theorem kf {w:World} {A:Option Addr} {n:Nat} {xs:List yf} (h:Kd.C Uj w A n xs) (i:Int) (h0:0 ≤ i) (h1:i < n):∃ ad , A=some ad∧w.cell? (ad.add (i.toNat * 7))=some (.int .i64 (Ea xs i).f0)∧w.cell? ⟨(ad.add (i.toNat * 7)).block,(ad.add (i.toNat * 7)).off + 1,none⟩=some (.int .i64 (Ea xs i).f1)∧w.cell? ⟨(ad.add (i.toNat * 7)).block,(ad.add (i.toNat * 7)).off + 2,none⟩=some (.int .i64 (Ea xs i).f2)∧w.cell? ⟨(ad.add (i.toNat * 7)).block,(ad.add (i.toNat * 7)).off + 3,none⟩=some (.int .i64 (Ea xs i).f3)∧w.cell? ⟨(ad.add (i.toNat * 7)).block,(ad.add (i.toNat * 7)).off + 4,none⟩=some (.int .i64 (Ea xs i).f4)∧w.cell? ⟨(ad.add (i.toNat * 7)).block,(ad.add (i.toNat * 7)).off + 5,none⟩=some (.int .i64 (Ea xs i).f5)∧w.cell? ⟨(ad.add (i.toNat * 7)).block,(ad.add (i.toNat * 7)).off + 6,none⟩=some (.string (Ea xs i).f6):=by
 obtain ⟨ad,c,e,_,hK,hc0⟩:=Kd.jx h Ws i h0 h1
 have hc:∀ j u,c[j]? = some u→w.cell? (ad.add (i.toNat * 7 + j))=some u:=hc0
 obtain rfl:=QK hK
 exact ⟨ad,e,hc 0 _ rfl,by rw [← Af _ _ 1 (by omega)];exact hc 1 _ rfl,by rw [← Af _ _ 2 (by omega)];exact hc 2 _ rfl,by rw [← Af _ _ 3 (by omega)];exact hc 3 _ rfl,by rw [← Af _ _ 4 (by omega)];exact hc 4 _ rfl,by rw [← Af _ _ 5 (by omega)];exact hc 5 _ rfl,by rw [← Af _ _ 6 (by omega)];exact hc 6 _ rfl⟩
structure Dh where
 f0:(List yf)
 f1:Int
 f2:Int
 f3:Int
 f4:Int
def lD:Dh:=⟨([]:List yf),(0:Int),(0:Int),(0:Int),(0:Int)⟩
def Tp:Kd Dh:=Kd.JG (Kd.pair (Kd.slice 70 Uj) (Kd.pair (Kd.int .i64) (Kd.pair (Kd.int .i64) (Kd.pair (Kd.int .i64) (Kd.int .i64))))) (fun x:Dh=>(x.f0,x.f1,x.f2,x.f3,x.f4))
theorem RK {w:World} {x:Dh} {cs:List Value} (h:Tp.K w x cs):∃ A0 c0,cs=[.slice A0 x.f0.length c0,.int .i64 x.f1,.int .i64 x.f2,.int .i64 x.f3,.int .i64 x.f4]∧x.f0.length ≤ c0∧Uj.C w A0 x.f0.length x.f0:=by
 obtain ⟨_,_,rfl,⟨A0,c0,rfl,l0,g0⟩,⟨_,_,rfl,rfl,⟨_,_,rfl,rfl,⟨_,_,rfl,rfl,rfl⟩⟩⟩⟩:=h
 exact ⟨A0,c0,rfl,l0,g0⟩
theorem Bw {w:World} {base:Nat} {ok:Nat→Prop} {x:Dh} {cs:List Value} (h:Tp.M w base ok x cs):∃ v0,cs=[v0,.int .i64 x.f1,.int .i64 x.f2,.int .i64 x.f3,.int .i64 x.f4]∧Uj.R 70 w base ok v0 x.f0:=by
 obtain ⟨_,_,rfl,⟨v0,rfl,g0⟩,⟨_,_,rfl,rfl,⟨_,_,rfl,rfl,⟨_,_,rfl,rfl,rfl⟩⟩⟩⟩:=h
 exact ⟨v0,rfl,g0⟩
theorem WA (w:World) (base:Nat) (ok:Nat→Prop) (x:Dh) {v0:Value} (g0:Uj.R 70 w base ok v0 x.f0):Tp.M w base ok x [v0,.int .i64 x.f1,.int .i64 x.f2,.int .i64 x.f3,.int .i64 x.f4]:=⟨[v0],[.int .i64 x.f1,.int .i64 x.f2,.int .i64 x.f3,.int .i64 x.f4],rfl,⟨v0,rfl,g0⟩,⟨[.int .i64 x.f1],[.int .i64 x.f2,.int .i64 x.f3,.int .i64 x.f4],rfl,rfl,⟨[.int .i64 x.f2],[.int .i64 x.f3,.int .i64 x.f4],rfl,rfl,⟨[.int .i64 x.f3],[.int .i64 x.f4],rfl,rfl,rfl⟩⟩⟩⟩
def Ua (xs:List Dh) (i:Int):Dh:=xs.getD i.toNat lD
theorem Zf {w:World} {A:Option Addr} {n:Nat} {xs:List Dh} (h:Kd.C Tp w A n xs) (i:Int) (h0:0 ≤ i) (h1:i < n):∃ ad A0 c0,A=some ad∧w.cell? (ad.add (i.toNat * 5))=some (.slice A0 (Ua xs i).f0.length c0)∧w.cell? ⟨(ad.add (i.toNat * 5)).block,(ad.add (i.toNat * 5)).off + 1,none⟩=some (.int .i64 (Ua xs i).f1)∧w.cell? ⟨(ad.add (i.toNat * 5)).block,(ad.add (i.toNat * 5)).off + 2,none⟩=some (.int .i64 (Ua xs i).f2)∧w.cell? ⟨(ad.add (i.toNat * 5)).block,(ad.add (i.toNat * 5)).off + 3,none⟩=some (.int .i64 (Ua xs i).f3)∧w.cell? ⟨(ad.add (i.toNat * 5)).block,(ad.add (i.toNat * 5)).off + 4,none⟩=some (.int .i64 (Ua xs i).f4)∧(Ua xs i).f0.length ≤ c0∧Uj.C w A0 (Ua xs i).f0.length (Ua xs i).f0:=by
 obtain ⟨ad,c,e,_,hK,hc0⟩:=Kd.jx h lD i h0 h1
 have hc:∀ j u,c[j]? = some u→w.cell? (ad.add (i.toNat * 5 + j))=some u:=hc0
 obtain ⟨A0,c0,rfl,l0,g0⟩:=RK hK
 exact ⟨ad,A0,c0,e,hc 0 _ rfl,by rw [← Af _ _ 1 (by omega)];exact hc 1 _ rfl,by rw [← Af _ _ 2 (by omega)];exact hc 2 _ rfl,by rw [← Af _ _ 3 (by omega)];exact hc 3 _ rfl,by rw [← Af _ _ 4 (by omega)];exact hc 4 _ rfl,l0,g0⟩
structure af where
 f0:Int
 f1:Int
 f2:Int
 f3:Int
def ox:af:=⟨(0:Int),(0:Int),(0:Int),(0:Int)⟩
def Dj:Kd af:=Kd.JG (Kd.pair (Kd.int .i64) (Kd.pair (Kd.int .i64) (Kd.pair (Kd.int .i64) (Kd.int .i64)))) (fun x:af=>(x.f0,x.f1,x.f2,x.f3))
theorem NJ {w:World} {x:af} {cs:List Value} (h:Dj.K w x cs):cs=[.int .i64 x.f0,.int .i64 x.f1,.int .i64 x.f2,.int .i64 x.f3]:=by
 obtain ⟨_,_,rfl,rfl,⟨_,_,rfl,rfl,⟨_,_,rfl,rfl,rfl⟩⟩⟩:=h
 exact rfl
theorem Vj {w:World} {base:Nat} {ok:Nat→Prop} {x:af} {cs:List Value} (h:Dj.M w base ok x cs):cs=[.int .i64 x.f0,.int .i64 x.f1,.int .i64 x.f2,.int .i64 x.f3]:=by
 obtain ⟨_,_,rfl,rfl,⟨_,_,rfl,rfl,⟨_,_,rfl,rfl,rfl⟩⟩⟩:=h
 exact rfl
theorem oq (w:World) (base:Nat) (ok:Nat→Prop) (x:af)  : Dj.M w base ok x [.int .i64 x.f0,.int .i64 x.f1,.int .i64 x.f2,.int .i64 x.f3]:=⟨[.int .i64 x.f0],[.int .i64 x.f1,.int .i64 x.f2,.int .i64 x.f3],rfl,rfl,⟨[.int .i64 x.f1],[.int .i64 x.f2,.int .i64 x.f3],rfl,rfl,⟨[.int .i64 x.f2],[.int .i64 x.f3],rfl,rfl,rfl⟩⟩⟩
def gb (xs:List af) (i:Int):af:=xs.getD i.toNat ox
theorem qi {w:World} {A:Option Addr} {n:Nat} {xs:List af} (h:Kd.C Dj w A n xs) (i:Int) (h0:0 ≤ i) (h1:i < n):∃ ad , A=some ad∧w.cell? (ad.add (i.toNat * 4))=some (.int .i64 (gb xs i).f0)∧w.cell? ⟨(ad.add (i.toNat * 4)).block,(ad.add (i.toNat * 4)).off + 1,none⟩=some (.int .i64 (gb xs i).f1)∧w.cell? ⟨(ad.add (i.toNat * 4)).block,(ad.add (i.toNat * 4)).off + 2,none⟩=some (.int .i64 (gb xs i).f2)∧w.cell? ⟨(ad.add (i.toNat * 4)).block,(ad.add (i.toNat * 4)).off + 3,none⟩=some (.int .i64 (gb xs i).f3):=by
 obtain ⟨ad,c,e,_,hK,hc0⟩:=Kd.jx h ox i h0 h1
 have hc:∀ j u,c[j]? = some u→w.cell? (ad.add (i.toNat * 4 + j))=some u:=hc0
 obtain rfl:=NJ hK
 exact ⟨ad,e,hc 0 _ rfl,by rw [← Af _ _ 1 (by omega)];exact hc 1 _ rfl,by rw [← Af _ _ 2 (by omega)];exact hc 2 _ rfl,by rw [← Af _ _ 3 (by omega)];exact hc 3 _ rfl⟩
structure S53 where
 f0:Int
 f1:Int
 f2:(List Int)
def z53:S53:=⟨(0:Int),(0:Int),([]:List Int)⟩
structure ko where
 f0:Int
 f1:Int
def sD:ko:=⟨(0:Int),(0:Int)⟩
def GG:Kd ko:=Kd.JG (Kd.pair (Kd.int .i64) (Kd.int .i64)) (fun x:ko=>(x.f0,x.f1))
theorem mq {w:World} {x:ko} {cs:List Value} (h:GG.K w x cs):cs=[.int .i64 x.f0,.int .i64 x.f1]:=by
 obtain ⟨_,_,rfl,rfl,rfl⟩:=h
 exact rfl
theorem ct (w:World) (base:Nat) (ok:Nat→Prop) (x:ko)  : GG.M w base ok x [.int .i64 x.f0,.int .i64 x.f1]:=⟨[.int .i64 x.f0],[.int .i64 x.f1],rfl,rfl,rfl⟩
def Xb (xs:List ko) (i:Int):ko:=xs.getD i.toNat sD
theorem cq {w:World} {A:Option Addr} {n:Nat} {xs:List ko} (h:Kd.C GG w A n xs) (i:Int) (h0:0 ≤ i) (h1:i < n):∃ ad , A=some ad∧w.cell? (ad.add (i.toNat * 2))=some (.int .i64 (Xb xs i).f0)∧w.cell? ⟨(ad.add (i.toNat * 2)).block,(ad.add (i.toNat * 2)).off + 1,none⟩=some (.int .i64 (Xb xs i).f1):=by
 obtain ⟨ad,c,e,_,hK,hc0⟩:=Kd.jx h sD i h0 h1
 have hc:∀ j u,c[j]? = some u→w.cell? (ad.add (i.toNat * 2 + j))=some u:=hc0
 obtain rfl:=mq hK
 exact ⟨ad,e,hc 0 _ rfl,by rw [← Af _ _ 1 (by omega)];exact hc 1 _ rfl⟩
structure S67 where
 f0:(List yf)
 f1:Int
 f2:Int
 f3:Int
 f4:Int
def z67:S67:=⟨([]:List yf),(0:Int),(0:Int),(0:Int),(0:Int)⟩
structure mm where
 f0:Int
 f1:Int
def cV:mm:=⟨(0:Int),(0:Int)⟩
def CN:Kd mm:=Kd.JG (Kd.pair (Kd.int .i64) (Kd.int .i64)) (fun x:mm=>(x.f0,x.f1))
theorem FD {w:World} {x:mm} {cs:List Value} (h:CN.K w x cs):cs=[.int .i64 x.f0,.int .i64 x.f1]:=by
 obtain ⟨_,_,rfl,rfl,rfl⟩:=h
 exact rfl
theorem FG (w:World) (base:Nat) (ok:Nat→Prop) (x:mm)  : CN.M w base ok x [.int .i64 x.f0,.int .i64 x.f1]:=⟨[.int .i64 x.f0],[.int .i64 x.f1],rfl,rfl,rfl⟩
def jb (xs:List mm) (i:Int):mm:=xs.getD i.toNat cV
theorem ru {w:World} {A:Option Addr} {n:Nat} {xs:List mm} (h:Kd.C CN w A n xs) (i:Int) (h0:0 ≤ i) (h1:i < n):∃ ad , A=some ad∧w.cell? (ad.add (i.toNat * 2))=some (.int .i64 (jb xs i).f0)∧w.cell? ⟨(ad.add (i.toNat * 2)).block,(ad.add (i.toNat * 2)).off + 1,none⟩=some (.int .i64 (jb xs i).f1):=by
 obtain ⟨ad,c,e,_,hK,hc0⟩:=Kd.jx h cV i h0 h1
 have hc:∀ j u,c[j]? = some u→w.cell? (ad.add (i.toNat * 2 + j))=some u:=hc0
 obtain rfl:=FD hK
 exact ⟨ad,e,hc 0 _ rfl,by rw [← Af _ _ 1 (by omega)];exact hc 1 _ rfl⟩
structure S78 where
 f0:Int
 f1:Int
def z78:S78:=⟨(0:Int),(0:Int)⟩
structure S87 where
 f0:(List Int)
 f1:(List (List Int))
 f2:(List Int)
 f3:Int
 f4:S53
def z87:S87:=⟨([]:List Int),([]:List (List Int)),([]:List Int),(0:Int),z53⟩
structure S89 where
 f0:S87
 f1:(List Int)
def z89:S89:=⟨z87,([]:List Int)⟩
structure kK where
 f0:Int
 f1:Int
 f2:Int
 f3:ByteArray
 f4:(List kK)
def YU (d:Kd kK):Kd kK:=Kd.JG (Kd.pair (Kd.int .i64) (Kd.pair (Kd.int .i64) (Kd.pair (Kd.int .i64) (Kd.pair Kd.string (Kd.slice 172 d))))) (fun x:kK=>(x.f0,x.f1,x.f2,x.f3,x.f4))
theorem wS:Kd.Sub YU [172]:=Kd.AG _ (Kd.Gl (Kd.sub_const _ (by decide)) (Kd.Gl (Kd.sub_const _ (by decide)) (Kd.Gl (Kd.sub_const _ (by decide)) (Kd.Gl (Kd.sub_const _ (by decide)) (Kd.vw 172 (by decide) Kd.JE)))))
theorem BV:∀ n,(Kd.upto YU 5 [172] n).sz=5:=Kd.yG (fun _=>rfl)
def Sad:Kd kK:=Kd.fix YU 5 [172] BV (Kd.FE wS)
structure Lw where
 f0:Int
 f1:Int
 f2:Int
 f3:(List kK)
 f4:(List Lw)
 f5:(List Lw)
def ZU (d:Kd Lw):Kd Lw:=Kd.JG (Kd.pair (Kd.int .i64) (Kd.pair (Kd.int .i64) (Kd.pair (Kd.int .i64) (Kd.pair (Kd.slice 172 Sad) (Kd.pair (Kd.slice 168 d) (Kd.slice 168 d)))))) (fun x:Lw=>(x.f0,x.f1,x.f2,x.f3,x.f4,x.f5))
theorem xS:Kd.Sub ZU [168,172]:=Kd.AG _ (Kd.Gl (Kd.sub_const _ (by decide)) (Kd.Gl (Kd.sub_const _ (by decide)) (Kd.Gl (Kd.sub_const _ (by decide)) (Kd.Gl (Kd.sub_const _ (by decide)) (Kd.Gl (Kd.vw 168 (by decide) Kd.JE) (Kd.vw 168 (by decide) Kd.JE))))))
theorem CV:∀ n,(Kd.upto ZU 6 [168,172] n).sz=6:=Kd.yG (fun _=>rfl)
def Tad:Kd Lw:=Kd.fix ZU 6 [168,172] CV (Kd.FE xS)
theorem JK {α:Type} {d:Kd α} {e:Nat} {w:World} {base:Nat} {ok:Nat→Prop} {v:Value} {xs:List α} (h:ja (d.R e w base ok v xs)):v.oneCell' = true:=by
 obtain ⟨A,c,rfl⟩:=Kd.Mf h.out
 rfl
theorem IK {α:Type} {d:Kd α} {e:Nat} {w:World} {base:Nat} {ok:Nat→Prop} {v:Value} {xs:List α} (h:ja (d.S e w base ok v xs)):v.oneCell' = true:=by
 obtain ⟨A,c,rfl⟩:=Kd.Mf (Kd.ER h.out)
 rfl
theorem LK {α:Type} {d:Kd α} {e:Nat} {w:World} {base:Nat} {ok:Nat→Prop} {v:Value} {xs:List α} (h:ja (Kd.N d e w base ok v xs)):v.oneCell' = true:=by
 obtain ⟨A,c,rfl⟩:=Kd.kQ h.out
 rfl
theorem KK {α:Type} {d:Kd α} {e:Nat} {w:World} {base:Nat} {ok:Nat→Prop} {v:Value} {xs:List α} (h:ja (d.Q e w base ok v xs)):v.oneCell' = true:=by
 obtain ⟨A,c,rfl,_⟩:=Kd.jQ h.out
 rfl
def Lm (P:Program) (t:TypeId) {α:Type} (d:Kd α) (fit:α→Prop):Prop :=
 ∀ {H:Type} {enc:TypeId × Value→H} {w:World} {base:Nat} {spare:Nat→Bool} {held:Bool} {fuel:Nat} {cs:List Value} {x:DataW H × List MemPlace},
  DataW.trod enc P w base spare held fuel t cs=some x→∃ a:α,d.K w a cs∧fit a
theorem IJ {P:Program} {t:TypeId} {k:IntKind} (ht:P.underlying t=some (.int k)):Lm P t (Kd.int k) (fun n=>(Lit.int k n).wf=true):=by
 intro H enc w base spare held fuel cs x h
 obtain ⟨n,rfl,_,hw⟩:=DataW.trod_int ht h
 exact ⟨n,rfl,hw⟩
def Tr (n:Int):Prop:=-9223372036854775808 ≤ n∧n ≤ 9223372036854775807
theorem wf_i64 {n:Int} (h:(Lit.int .i64 n).wf=true):Tr n:=by
 simp [Lit.wf,IntKind.min,IntKind.max,IntKind.signed,IntKind.bits] at h
 unfold Tr
 omega
theorem Ph {P:Program} {t:TypeId} (ht:P.underlying t=some (.int .i64)):Lm P t (Kd.int .i64) Tr:=by
 intro H enc w base spare held fuel cs x h
 obtain ⟨n,h1,h2⟩:=IJ ht h
 exact ⟨n,h1,wf_i64 h2⟩
theorem UA {P:Program} {t:TypeId} (ht:P.underlying t=some .string):Lm P t Kd.string (fun s=>s.size ≤ 9223372036854775807):=by
 intro H enc w base spare held fuel cs x h
 obtain ⟨s,rfl,_,hw⟩:=DataW.trod_string ht h
 exact ⟨s,rfl,by simpa [maxLen] using hw⟩
theorem Zw {α:Type} {p:Nat→α→Prop}:∀ n,(∀ i,i < n→∃ a,p i a)→∃ xs:List α,xs.length=n∧∀ (i:Nat) (a:α),xs[i]? = some a→p i a
 | 0,_=>⟨[],rfl,fun i a h=>by simp at h⟩
 | n + 1,h=>by
  obtain ⟨xs,hl,hx⟩:=Zw n (fun i hi=>h i (by omega))
  obtain ⟨a,ha⟩:=h n (by omega)
  refine ⟨xs ++ [a],by simp [hl],fun i b hb=>?_⟩
  rcases Nat.lt_or_ge i xs.length with hi|hi
  ·rw [List.getElem?_append_left hi] at hb
   exact hx i b hb
  ·have:i=n:=by
    have:=(List.getElem?_eq_some_iff.1 hb).1
    simp [hl] at this
    omega
   subst this
   rw [List.getElem?_append_right hi,hl] at hb
   simp at hb
   exact hb ▸ ha
theorem Ls {P:Program} {t e e':TypeId} {α:Type} {d:Kd α} {fit:α→Prop} (ht:P.underlying t=some (.slice e)) (hs:P.cellsOf e=d.sz) (h:Lm P e d fit):Lm P t (Kd.slice e' d) (fun l=>l.length ≤ 9223372036854775807∧∀ a ∈ l,fit a):=by
 intro H enc w base spare held fuel cs x hx
 rcases Go.Deep.open_slice ht hx with ⟨rfl,_⟩|⟨a,len,cap,m,n,D,Pl,rfl,hb,hl,hm,hmm,_,hel⟩
 ·exact ⟨[],⟨none,0,rfl,Nat.le_refl _,rfl,by simp,fun hp=>absurd hp (by simp)⟩,by simp,by simp⟩
 ·have hle:len ≤ m:=by rw [hmm];split <;> omega
  have FN:len ≤ 9223372036854775807:=by simp only [maxLen] at hm;omega
  obtain ⟨xs,hxl,hxs⟩:=Zw (α:=α) (p:=fun i y=>∃ c,c.length=d.sz∧d.K w y c∧(∀ j u,c[j]? = some u→w.cell? (a.add (i * d.sz + j))=some u)∧fit y) len (fun i hi=>by
   obtain ⟨cs',h1,h2⟩:=hel i (by omega)
   obtain ⟨y,hy,hf⟩:=h h2
   obtain ⟨_,nu,yq⟩:=World.cells?_some h1
   refine ⟨y,cs',by rw [nu,hs],hy,fun j u hu=>?_,hf⟩
   have hj:j < P.cellsOf e:=by rw [← nu];exact (List.getElem?_eq_some_iff.1 hu).1
   rw [← hs,← Go.Deep.add_add,yq j hj]
   exact hu)
  refine ⟨xs,⟨some a,cap,by rw [hxl],by omega,rfl,by omega,fun _=>⟨a,rfl,fun j p hj=>?_⟩⟩,by omega,fun y hy=>?_⟩
  ·obtain ⟨c,h1,h2,h3,_⟩:=hxs j p hj
   exact ⟨c,h1,h2,h3⟩
  ·obtain ⟨i,hi,rfl⟩:=List.getElem_of_mem hy
   obtain ⟨c,_,_,_,h4⟩:=hxs i _ (List.getElem?_eq_getElem hi)
   exact h4
def hD (P:Program) (fs:List Field) (off:Nat) {α:Type} (d:Kd α) (fit:α→Prop):Prop :=
 ∀ {H:Type} {enc:TypeId × Value→H} {w:World} {base:Nat} {spare:Nat→Bool} {held:Bool} {n:Nat} {cs:List Value},
  (∀ f ∈ fs,∃ y,DataW.trod enc P w base spare held n f.type ((cs.drop f.offset).take (P.cellsOf f.type))=some y)→cs.length=off + d.sz→∃ a:α,d.K w a (cs.drop off)∧fit a
theorem lu {P:Program} {f:Field} {off:Nat} {α:Type} {d:Kd α} {fit:α→Prop} (ho:f.offset=off) (hs:P.cellsOf f.type=d.sz) (h:Lm P f.type d fit):hD P [f] off d fit:=by
 intro H enc w base spare held n cs hf hl
 obtain ⟨y,hy⟩:=hf f (by simp)
 rw [ho,hs,List.take_of_length_le (by rw [List.length_drop];omega)] at hy
 exact h hy
theorem Lg {P:Program} {f:Field} {fs:List Field} {off off2:Nat} {α β:Type} {d:Kd α} {d2:Kd β} {fit:α→Prop} {Z0:β→Prop} (ho:f.offset=off) (hs:P.cellsOf f.type=d.sz) (E5:off2=off + d.sz) (h:Lm P f.type d fit) (h2:hD P fs off2 d2 Z0):hD P (f :: fs) off (Kd.pair d d2) (fun p=>fit p.1∧Z0 p.2):=by
 intro H enc w base spare held n cs hf hl
 have hl':cs.length=off + (d.sz + d2.sz):=hl
 obtain ⟨y,hy⟩:=hf f (by simp)
 rw [ho,hs] at hy
 obtain ⟨a,ha,fa⟩:=h hy
 obtain ⟨b,hb,fb⟩:=h2 (fun g hg=>hf g (List.mem_cons_of_mem _ hg)) (by omega)
 refine ⟨(a,b),⟨(cs.drop off).take d.sz,cs.drop off2,?_,ha,hb⟩,fa,fb⟩
 rw [E5,← List.drop_drop,List.take_append_drop]
theorem zq {P:Program} {t:TypeId} {fs:Array Field} {α:Type} {d:Kd α} {fit:α→Prop} (ht:P.underlying t=some (.struct fs)) (hs:P.cellsOf t=d.sz) (h:hD P fs.toList 0 d fit):Lm P t d fit:=by
 intro H enc w base spare held fuel cs x hx
 obtain ⟨xs,n,_,_,hl,hxl,hf⟩:=DataW.trod_struct ht hx
 have:=h (w:=w) (enc:=enc) (base:=base) (spare:=spare) (held:=held) (n:=n) (cs:=cs) (fun f hfm=>by
  obtain ⟨i,hi,rfl⟩:=List.getElem_of_mem hfm
  have hi':i < fs.size:=by simpa using hi
  have h1:=hf i (fs.toList[i]) (by simp [hi'])
  rw [List.getElem?_eq_getElem (by omega)] at h1
  exact ⟨_,h1⟩) (by omega)
 simpa using this
theorem Aw {P:Program} {t:TypeId} {α β:Type} {d:Kd α} {fit:α→Prop} {g:β→α} (gi:α→β) (hg:∀ a,g (gi a)=a) (h:Lm P t d fit):Lm P t (Kd.JG d g) (fun b=>fit (g b)):=by
 intro H enc w base spare held fuel cs x hx
 obtain ⟨a,ha,hf⟩:=h hx
 refine ⟨gi a,?_,?_⟩
 ·show d.K w (g (gi a)) cs
  rw [hg]
  exact ha
 ·show fit (g (gi a))
  rw [hg]
  exact hf
theorem GK {P:Program} {t:TypeId} {fs:Array Field} {α:Type} {d:Kd α} {fit:α→Prop} {r:Reach} {b0:Nat} {H:Type} {enc:TypeId × Value→H} {w:World} {base:Nat} {spare:Nat→Bool} {held:Bool} {v:Value} {dt:DataW H} {p:List MemPlace}
  (ht:P.underlying t=some (.struct fs)) (h:Lm P t d fit) (hv:Value.okWide P w r b0 t v) (hd:DataW.Trod enc P w base spare held t v dt p) :
  ∃ (a:α) (cs:Array Value),v = .agg cs∧d.K w a cs.toList∧fit a:=by
 obtain ⟨cs,rfl,hsz⟩:=Go.WideShapes.okWide_struct ht hv
 obtain ⟨fuel,hf⟩:=hd
 obtain ⟨a,ha,hfa⟩:=h hf
 exact ⟨a,cs,rfl,by simpa [Value.cells] using ha,hfa⟩
theorem yN:Lm Try.prog 22 (Kd.slice 3 (Kd.int .i64)) (fun l=>l.length ≤ 9223372036854775807∧∀ a ∈ l,Tr a):=Ls Try.underlying22 (by kernel_rfl) (Ph Try.underlying3)
def FF (x:Km):Prop:=Tr x.f0∧Tr x.f1∧Tr x.f2∧Tr x.f3∧Tr x.f4∧Tr x.f5∧(fun s=>s.size ≤ 9223372036854775807) x.f6
theorem CK:Lm Try.prog 161 ez FF:=Aw (fun p=>⟨p.1,p.2.1,p.2.2.1,p.2.2.2.1,p.2.2.2.2.1,p.2.2.2.2.2.1,p.2.2.2.2.2.2⟩) (fun _=>rfl) (zq Try.underlying161 (by kernel_rfl) (Lg rfl (by kernel_rfl) (by kernel_rfl) (Ph Try.underlying3) (Lg rfl (by kernel_rfl) (by kernel_rfl) (Ph Try.underlying3) (Lg rfl (by kernel_rfl) (by kernel_rfl) (Ph Try.underlying3) (Lg rfl (by kernel_rfl) (by kernel_rfl) (Ph Try.underlying3) (Lg rfl (by kernel_rfl) (by kernel_rfl) (Ph Try.underlying3) (Lg rfl (by kernel_rfl) (by kernel_rfl) (Ph Try.underlying3) (lu rfl (by kernel_rfl) (UA Try.underlying9)))))))))
theorem EK:Lm Try.prog 116 (Kd.slice 161 ez) (fun l=>l.length ≤ 9223372036854775807∧∀ a ∈ l,FF a):=Ls Try.underlying116 (by kernel_rfl) CK
def GF (x:Dl):Prop:=(fun l=>l.length ≤ 9223372036854775807∧∀ a ∈ l,FF a) x.f0∧Tr x.f1∧Tr x.f2∧Tr x.f3∧Tr x.f4
theorem DK:Lm Try.prog 118 fz GF:=Aw (fun p=>⟨p.1,p.2.1,p.2.2.1,p.2.2.2.1,p.2.2.2.2⟩) (fun _=>rfl) (zq Try.underlying118 (by kernel_rfl) (Lg rfl (by kernel_rfl) (by kernel_rfl) EK (Lg rfl (by kernel_rfl) (by kernel_rfl) (Ph Try.underlying3) (Lg rfl (by kernel_rfl) (by kernel_rfl) (Ph Try.underlying3) (Lg rfl (by kernel_rfl) (by kernel_rfl) (Ph Try.underlying3) (lu rfl (by kernel_rfl) (Ph Try.underlying3)))))))
theorem xN:Lm Try.prog 23 (Kd.slice 118 fz) (fun l=>l.length ≤ 9223372036854775807∧∀ a ∈ l,GF a):=Ls Try.underlying23 (by kernel_rfl) DK
def UL (x:oV):Prop:=(fun l=>l.length ≤ 9223372036854775807∧∀ a ∈ l,Tr a) x.f0∧Tr x.f1∧Tr x.f2∧Tr x.f3∧(fun l=>l.length ≤ 9223372036854775807∧∀ a ∈ l,GF a) x.f4
theorem wN:Lm Try.prog 25 k25 UL:=Aw (fun p=>⟨p.1,p.2.1,p.2.2.1,p.2.2.2.1,p.2.2.2.2⟩) (fun _=>rfl) (zq Try.underlying25 (by kernel_rfl) (Lg rfl (by kernel_rfl) (by kernel_rfl) yN (Lg rfl (by kernel_rfl) (by kernel_rfl) (Ph Try.underlying3) (Lg rfl (by kernel_rfl) (by kernel_rfl) (Ph Try.underlying3) (Lg rfl (by kernel_rfl) (by kernel_rfl) (Ph Try.underlying3) (lu rfl (by kernel_rfl) xN))))))
def Ii.f (l0:List Int) (a1:Int):Option (Int):=if (wrap64 (a1 - (l0.length:Int))) < 0 then (some (-1)) else (some (wrap64 (a1 - (l0.length:Int))))
theorem Ii.calls (A0:Option Addr) (c0:Nat) (l0:List Int) (a1:Int) (r:Int) (w:World) (hr0:Kd.C (Kd.int .i64) w A0 l0.length l0) (hc0:l0.length ≤ c0) (h:Ii.f l0 a1=some r) :
  Calls Try.prog 51 #[.slice A0 l0.length c0,.int .i64 a1] w fun e w'=>e = .returned (.int .i64 r)∧jc w w':=by
 have Bh:=ja.mk hr0
 have Rw:=ja.mk hc0
 clear hr0 hc0
 have H:(if (wrap64 (a1 - (l0.length:Int))) < 0 then (some (-1)) else (some (wrap64 (a1 - (l0.length:Int)))))=some r:=h
 clear h
 by_cases c3:(wrap64 (a1 - (l0.length:Int))) < 0
 ·rw [if_pos c3] at H
  have Jh:decide ((wrap64 (a1 - (l0.length:Int))) < 0)=true:=decide_eq_true c3
  clear c3
  obtain rfl:=Option.some.inj H
  go_enter Try.func51,Try.ntmps51
  go_wp2
  go_ret
  exact ⟨by first|rfl|(simp;done)|(simp [*];done),by repeat (first|exact jc.refl _|apply jc.step)⟩
 ·rw [if_neg c3] at H
  have Jh:decide ((wrap64 (a1 - (l0.length:Int))) < 0)=false:=decide_eq_false c3
  clear c3
  obtain rfl:=Option.some.inj H
  go_enter Try.func51,Try.ntmps51
  go_wp2
  go_ret
  exact ⟨by first|rfl|(simp;done)|(simp [*];done),by repeat (first|exact jc.refl _|apply jc.step)⟩
def qj.f (Yc:Int) (Pa:Int) (Oa:Int) (Ma:Int) (Vc:Int) (ke:Int) (Le:ByteArray) (a1:Int):Option (Int):=if (wrap64 (a1 - (Le.size:Int))) < 0 then (some (-1)) else (some (wrap64 (a1 - (Le.size:Int))))
theorem qj.calls (Yc:Int) (Pa:Int) (Oa:Int) (Ma:Int) (Vc:Int) (ke:Int) (Le:ByteArray) (a1:Int) (r:Int) (w:World) (h:qj.f Yc Pa Oa Ma Vc ke Le a1=some r) :
  Calls Try.prog 127 #[.agg #[.int .i64 Yc,.int .i64 Pa,.int .i64 Oa,.int .i64 Ma,.int .i64 Vc,.int .i64 ke,.string Le],.int .i64 a1] w fun e w'=>e = .returned (.int .i64 r)∧Below w.heap.size w w':=by
 have dL:=Try.underlying161
 have HB:=ja.mk (Below.refl w.heap.size w)
 have H:(if (wrap64 (a1 - (Le.size:Int))) < 0 then (some (-1)) else (some (wrap64 (a1 - (Le.size:Int)))))=some r:=h
 clear h
 by_cases c3:(wrap64 (a1 - (Le.size:Int))) < 0
 ·rw [if_pos c3] at H
  have Jh:decide ((wrap64 (a1 - (Le.size:Int))) < 0)=true:=decide_eq_true c3
  clear c3
  obtain rfl:=Option.some.inj H
  go_enter Try.func127,Try.ntmps127
  go_wp2_with (first|((with_reducible refine Pb (N:=2) rfl ?_);refine Kb ?hg (N:=2) ?hd (cs:=#[.int .i64 Yc,.int .i64 Pa,.int .i64 Oa,.int .i64 Ma,.int .i64 Vc,.int .i64 ke,.string Le]) (t:=161) ?hr ?_;(case hd=>rfl);(case hg=>rfl);(case hr=>first|(go_simp;done)|(go_simp;rfl));intro Da hg w4 Yb hb;have Qb:=ja.mk (Na (by repeat (first|(with_reducible first|exact HB.out|apply qa|apply ia|apply ua)|exact HB.out)) hb);have uc:=ja.mk (Yb);have Qc:=ja.mk ((by rw [hg];exact (Qa (by repeat (first|(with_reducible first|exact HB.out|apply qa|apply ia|apply ua)|exact HB.out))):w.heap.size ≤ Da));have Td:=ja.mk ((by rw [hg];exact (Qa (by repeat (first|(with_reducible first|exact HB.out|apply qa|apply ia|apply ua)|exact HB.out))):w.heap.size ≤ Da));clear HB;have HB:=Qb;have za:=uc;have Vf:=Qc;have Wa:=Td;clear Qb uc Qc Td hb Yb hg;have baf:w4.cell? ⟨Da,0,none⟩=some (.int .i64 Yc):=(ga za.out 0).trans rfl;have aaf:w4.cell? ⟨Da,1,none⟩=some (.int .i64 Pa):=(ga za.out 1).trans rfl;have Zae:w4.cell? ⟨Da,2,none⟩=some (.int .i64 Oa):=(ga za.out 2).trans rfl;have Yae:w4.cell? ⟨Da,3,none⟩=some (.int .i64 Ma):=(ga za.out 3).trans rfl;have Xae:w4.cell? ⟨Da,4,none⟩=some (.int .i64 Vc):=(ga za.out 4).trans rfl;have Wae:w4.cell? ⟨Da,5,none⟩=some (.int .i64 ke):=(ga za.out 5).trans rfl;have Vae:w4.cell? ⟨Da,6,none⟩=some (.string Le):=(ga za.out 6).trans rfl;have Lae:=aa za.out 0;have Kae:=aa za.out 1;have Jae:=aa za.out 2;have Iae:=aa za.out 3;have Hae:=aa za.out 4;have Gae:=aa za.out 5;have Fae:=aa za.out 6))
  go_ret
  exact ⟨by first|rfl|(simp [La,Ka] <;> rfl)|(simp [*,La,Ka] <;> rfl),by repeat (first|(with_reducible first|exact HB.out|apply qa|apply ia|apply ua|refine Aa ?_ Wa.out)|exact HB.out)⟩
 ·rw [if_neg c3] at H
  have Jh:decide ((wrap64 (a1 - (Le.size:Int))) < 0)=false:=decide_eq_false c3
  clear c3
  obtain rfl:=Option.some.inj H
  go_enter Try.func127,Try.ntmps127
  go_wp2_with (first|((with_reducible refine Pb (N:=2) rfl ?_);refine Kb ?hg (N:=2) ?hd (cs:=#[.int .i64 Yc,.int .i64 Pa,.int .i64 Oa,.int .i64 Ma,.int .i64 Vc,.int .i64 ke,.string Le]) (t:=161) ?hr ?_;(case hd=>rfl);(case hg=>rfl);(case hr=>first|(go_simp;done)|(go_simp;rfl));intro Da hg w6 Yb hb;have Qb:=ja.mk (Na (by repeat (first|(with_reducible first|exact HB.out|apply qa|apply ia|apply ua)|exact HB.out)) hb);have uc:=ja.mk (Yb);have Qc:=ja.mk ((by rw [hg];exact (Qa (by repeat (first|(with_reducible first|exact HB.out|apply qa|apply ia|apply ua)|exact HB.out))):w.heap.size ≤ Da));have Td:=ja.mk ((by rw [hg];exact (Qa (by repeat (first|(with_reducible first|exact HB.out|apply qa|apply ia|apply ua)|exact HB.out))):w.heap.size ≤ Da));clear HB;have HB:=Qb;have za:=uc;have Vf:=Qc;have Wa:=Td;clear Qb uc Qc Td hb Yb hg;have tr:w6.cell? ⟨Da,0,none⟩=some (.int .i64 Yc):=(ga za.out 0).trans rfl;have sr:w6.cell? ⟨Da,1,none⟩=some (.int .i64 Pa):=(ga za.out 1).trans rfl;have nr:w6.cell? ⟨Da,2,none⟩=some (.int .i64 Oa):=(ga za.out 2).trans rfl;have kr:w6.cell? ⟨Da,3,none⟩=some (.int .i64 Ma):=(ga za.out 3).trans rfl;have jr:w6.cell? ⟨Da,4,none⟩=some (.int .i64 Vc):=(ga za.out 4).trans rfl;have EL:w6.cell? ⟨Da,5,none⟩=some (.int .i64 ke):=(ga za.out 5).trans rfl;have DL:w6.cell? ⟨Da,6,none⟩=some (.string Le):=(ga za.out 6).trans rfl;have Kq:=aa za.out 0;have Jq:=aa za.out 1;have Iq:=aa za.out 2;have Hq:=aa za.out 3;have Gq:=aa za.out 4;have rL:=aa za.out 5;have qL:=aa za.out 6))
  go_ret
  exact ⟨by first|rfl|(simp [La,Ka] <;> rfl)|(simp [*,La,Ka] <;> rfl),by repeat (first|(with_reducible first|exact HB.out|apply qa|apply ia|apply ua|refine Aa ?_ Wa.out)|exact HB.out)⟩
def ld.l0:Nat→List (Km)→Int→Int→Option (Int)
 | 0,_,_,_=>none
 | k + 1,x0,x1,x5=>if x5 < (x0.length:Int) then (if 0 ≤ x5 then ((qj.f ((yd x0 x5).f0) ((yd x0 x5).f1) ((yd x0 x5).f2) ((yd x0 x5).f3) ((yd x0 x5).f4) ((yd x0 x5).f5) ((yd x0 x5).f6) x1).bind fun t102=>(if t102 < 0 then (some (-1)) else (ld.l0 k x0 t102 (wrap64 (x5 + 1))))) else (none)) else (some x1)
def ld.f (k:Nat) (l0:List (Km)) (a1:Int):Option (Int):=if (wrap64 (a1 - (l0.length:Int))) < 0 then (some (-1)) else (ld.l0 k l0 (wrap64 (a1 - (l0.length:Int))) 0)
theorem ld.Qd:∀ k,(∀ y0 y1 y2,Nb (ld.l0 k y0 y1 y2) (ld.l0 (k + 1) y0 y1 y2))
 | 0=>fun _ _ _ r h=>by simp [ld.l0] at h
 | k + 1=>by
  have Ff:=ld.Qd k
  ·intro y0 y1 y2
   unfold ld.l0
   repeat' first
   | (with_reducible exact Ff _ _ _)
   | (with_reducible exact Nb.refl _)
   | (with_reducible exact Nb.none _)
   | (with_reducible refine Nb.ite ?_ ?_)
   | (with_reducible refine Nb.bind ?_ (fun _=>?_))
   | exact Ff _ _ _
   | exact Nb.none _
   | refine Nb.ite ?_ ?_
   | refine Nb.bind ?_ (fun _=>?_)
theorem ld.mono:∀ a0 a1 k,Nb (ld.f k a0 a1) (ld.f (k + 1) a0 a1):=by
 intro a0 a1 k
 have Ff:=ld.Qd k
 unfold ld.f
 repeat' first
   | (with_reducible exact Ff _ _ _)
   | (with_reducible exact Nb.refl _)
   | (with_reducible exact Nb.none _)
   | (with_reducible refine Nb.ite ?_ ?_)
   | (with_reducible refine Nb.bind ?_ (fun _=>?_))
   | exact Ff _ _ _
   | exact Nb.none _
   | refine Nb.ite ?_ ?_
   | refine Nb.bind ?_ (fun _=>?_)
theorem ld.calls (k:Nat) (A0:Option Addr) (c0:Nat) (l0:List (Km)) (a1:Int) (r:Int) (w:World) (hr0:Kd.C ez w A0 l0.length l0) (hc0:l0.length ≤ c0) (h:ld.f k l0 a1=some r) :
  Calls Try.prog 110 #[.slice A0 l0.length c0,.int .i64 a1] w fun e w'=>e = .returned (.int .i64 r)∧Below w.heap.size w w':=by
 have dL:=Try.underlying161
 have Bh:=ja.mk hr0
 have Rw:=ja.mk hc0
 clear hr0 hc0
 have HB:=ja.mk (Below.refl w.heap.size w)
 have H:(if (wrap64 (a1 - (l0.length:Int))) < 0 then (some (-1)) else (ld.l0 k l0 (wrap64 (a1 - (l0.length:Int))) 0))=some r:=h
 clear h
 by_cases c3:(wrap64 (a1 - (l0.length:Int))) < 0
 ·rw [if_pos c3] at H
  have Jh:decide ((wrap64 (a1 - (l0.length:Int))) < 0)=true:=decide_eq_true c3
  clear c3
  obtain rfl:=Option.some.inj H
  go_enter Try.func110,Try.ntmps110
  go_wp2
  go_ret
  exact ⟨by first|rfl|(simp [La,Ka] <;> rfl)|(simp [*,La,Ka] <;> rfl),by repeat (first|(with_reducible first|exact HB.out|apply qa|apply ia|apply ua)|exact HB.out)⟩
 ·rw [if_neg c3] at H
  have Jh:decide ((wrap64 (a1 - (l0.length:Int))) < 0)=false:=decide_eq_false c3
  clear c3
  have H':=ja.mk H
  clear H
  go_enter Try.func110,Try.ntmps110
  go_wp2
  go_loopg [1,5] k (fun kq v1 v5 w'=>∃ (Gc:Int) (Ca:Int),v1 = .int .i64 Gc∧v5 = .int .i64 Ca∧ja (ld.l0 kq l0 Gc Ca=some r)∧ja (kq ≤ k)∧ja (Below w.heap.size w w'))
  case atStart=>exact ⟨(wrap64 (a1 - (l0.length:Int))),(0),(by first|rfl|(simp;done)|(simp [*];done)),(by first|rfl|(simp;done)|(simp [*];done)),H',⟨Nat.le_refl _⟩,⟨by repeat (first|(with_reducible first|exact HB.out|apply qa|apply ia|apply ua)|exact HB.out)⟩⟩
  case round =>
   clear H'
   try clear c1
   try clear p2
   try clear c3
   try clear Jh
   (try clear HA)
   (try clear Ig)
   (try clear HB)
   obtain ⟨Gc,Ca,rfl,rfl,HA,Ig,HB⟩:=hrel
   cases gk with
   | zero=>exact absurd HA.out (by simp [ld.l0])
   | succ k1 =>
    have H:=HA.out
    clear HA
    simp only [ld.l0] at H
    by_cases c4:Ca < (l0.length:Int)
    ·rw [if_pos c4] at H
     have si:decide (Ca < (l0.length:Int))=true:=decide_eq_true c4
     clear c4
     by_cases c5:0 ≤ Ca
     ·rw [if_pos c5] at H
      have Ok:decide (0 ≤ Ca)=true:=decide_eq_true c5
      clear c5
      replace H:=Option.bind_eq_some_iff.mp H
      obtain ⟨t102,jS,H⟩:=H
      replace H:(if t102 < 0 then (some (-1)) else (ld.l0 k1 l0 t102 (wrap64 (Ca + 1))))=some r:=H
      have A6:=ja.mk jS
      clear jS
      by_cases c7:t102 < 0
      ·rw [if_pos c7] at H
       have Uo:decide (t102 < 0)=true:=decide_eq_true c7
       clear c7
       obtain rfl:=Option.some.inj H
       have Vd:0 ≤ (Ca:Int):=of_decide_eq_true (by first|(with_reducible assumption)|assumption)
       have Ud:Ca < (l0.length:Int):=of_decide_eq_true (by first|(with_reducible assumption)|assumption)
       obtain ⟨ic,Eg,Ob,Vb,Ub,Tb,Cc,Ce,Be⟩:=bD Bh.out Ca Vd Ud
       cases Eg
       replace Ob:=(HB.out.cell (World.block_lt_of_cell? w _ Ob)).trans Ob
       replace Vb:=(HB.out.cell (World.block_lt_of_cell? w _ Vb)).trans Vb
       replace Ub:=(HB.out.cell (World.block_lt_of_cell? w _ Ub)).trans Ub
       replace Tb:=(HB.out.cell (World.block_lt_of_cell? w _ Tb)).trans Tb
       replace Cc:=(HB.out.cell (World.block_lt_of_cell? w _ Cc)).trans Cc
       replace Ce:=(HB.out.cell (World.block_lt_of_cell? w _ Ce)).trans Ce
       replace Be:=(HB.out.cell (World.block_lt_of_cell? w _ Be)).trans Be
       replace Vd:=eq_true Vd
       replace Ud:=eq_true Ud
       go_wp2_with (first|((with_reducible refine xb (f:=127) rfl ?_);refine qd (some 23) rfl rfl Try.func127 (by kernel_rfl) rfl #[.agg #[.int .i64 ((yd l0 Ca).f0),.int .i64 ((yd l0 Ca).f1),.int .i64 ((yd l0 Ca).f2),.int .i64 ((yd l0 Ca).f3),.int .i64 ((yd l0 Ca).f4),.int .i64 ((yd l0 Ca).f5),.string ((yd l0 Ca).f6)],.int .i64 Gc] rfl (by (try simp only [List.map_toArray,List.map_cons,List.map_nil]);first|done|rfl|(simp only [List.length_drop,List.length_take];rfl)) ?_;(with_reducible refine (qj.calls ((yd l0 Ca).f0) ((yd l0 Ca).f1) ((yd l0 Ca).f2) ((yd l0 Ca).f3) ((yd l0 Ca).f4) ((yd l0 Ca).f5) ((yd l0 Ca).f6) Gc t102 _ A6.out).mono ?_);rintro e w8 ⟨rfl,hb⟩;refine ⟨_,rfl,?_⟩;have Qb:=ja.mk (Na (by repeat (first|(with_reducible first|exact HB.out|apply qa|apply ia|apply ua)|exact HB.out)) hb);clear HB;have HB:=Qb;clear Qb;(try clear hb);(try clear hb2);(try clear hk);(try clear hi)))
       go_ret
       exact ⟨by first|rfl|(simp [La,Ka] <;> rfl)|(simp [*,La,Ka] <;> rfl),by repeat (first|(with_reducible first|exact HB.out|apply qa|apply ia|apply ua)|exact HB.out)⟩
      ·rw [if_neg c7] at H
       have Uo:decide (t102 < 0)=false:=decide_eq_false c7
       clear c7
       have H':=ja.mk H
       clear H
       have Vd:0 ≤ (Ca:Int):=of_decide_eq_true (by first|(with_reducible assumption)|assumption)
       have Ud:Ca < (l0.length:Int):=of_decide_eq_true (by first|(with_reducible assumption)|assumption)
       obtain ⟨ic,Eg,Ob,Vb,Ub,Tb,Cc,Ce,Be⟩:=bD Bh.out Ca Vd Ud
       cases Eg
       replace Ob:=(HB.out.cell (World.block_lt_of_cell? w _ Ob)).trans Ob
       replace Vb:=(HB.out.cell (World.block_lt_of_cell? w _ Vb)).trans Vb
       replace Ub:=(HB.out.cell (World.block_lt_of_cell? w _ Ub)).trans Ub
       replace Tb:=(HB.out.cell (World.block_lt_of_cell? w _ Tb)).trans Tb
       replace Cc:=(HB.out.cell (World.block_lt_of_cell? w _ Cc)).trans Cc
       replace Ce:=(HB.out.cell (World.block_lt_of_cell? w _ Ce)).trans Ce
       replace Be:=(HB.out.cell (World.block_lt_of_cell? w _ Be)).trans Be
       replace Vd:=eq_true Vd
       replace Ud:=eq_true Ud
       go_wp2_with (first|((with_reducible refine xb (f:=127) rfl ?_);refine qd (some 23) rfl rfl Try.func127 (by kernel_rfl) rfl #[.agg #[.int .i64 ((yd l0 Ca).f0),.int .i64 ((yd l0 Ca).f1),.int .i64 ((yd l0 Ca).f2),.int .i64 ((yd l0 Ca).f3),.int .i64 ((yd l0 Ca).f4),.int .i64 ((yd l0 Ca).f5),.string ((yd l0 Ca).f6)],.int .i64 Gc] rfl (by (try simp only [List.map_toArray,List.map_cons,List.map_nil]);first|done|rfl|(simp only [List.length_drop,List.length_take];rfl)) ?_;(with_reducible refine (qj.calls ((yd l0 Ca).f0) ((yd l0 Ca).f1) ((yd l0 Ca).f2) ((yd l0 Ca).f3) ((yd l0 Ca).f4) ((yd l0 Ca).f5) ((yd l0 Ca).f6) Gc t102 _ A6.out).mono ?_);rintro e w9 ⟨rfl,hb⟩;refine ⟨_,rfl,?_⟩;have Qb:=ja.mk (Na (by repeat (first|(with_reducible first|exact HB.out|apply qa|apply ia|apply ua)|exact HB.out)) hb);clear HB;have HB:=Qb;clear Qb;(try clear hb);(try clear hb2);(try clear hk);(try clear hi)))
       go_roundg k1
       case measure=>have:=Ig.out;omega
       case rel=>exact ⟨(t102),(wrap64 (Ca + 1)),(by first|rfl|(simp;done)|(simp [*];done)),(by first|rfl|(simp;done)|(simp [*];done)),H',⟨by have:=Ig.out;omega⟩,⟨by repeat (first|(with_reducible first|exact HB.out|apply qa|apply ia|apply ua)|exact HB.out)⟩⟩
     ·rw [if_neg c5] at H
      exact absurd H (by simp)
    ·rw [if_neg c4] at H
     have si:decide (Ca < (l0.length:Int))=false:=decide_eq_false c4
     clear c4
     obtain rfl:=Option.some.inj H
     go_wp2
     go_ret
     exact ⟨by first|rfl|(simp [La,Ka] <;> rfl)|(simp [*,La,Ka] <;> rfl),by repeat (first|(with_reducible first|exact HB.out|apply qa|apply ia|apply ua)|exact HB.out)⟩
def Rf.f (k:Nat) (Ta:List (Km)) (Pa:Int) (Oa:Int) (Ma:Int) (Vc:Int) (a1:Int):Option (Int):=(ld.f k Ta a1).bind fun t102=>(if t102 < 0 then (some (-1)) else (some t102))
theorem Rf.mono:∀ a0 a1 a2 a3 a4 a5 k,Nb (Rf.f k a0 a1 a2 a3 a4 a5) (Rf.f (k + 1) a0 a1 a2 a3 a4 a5):=by
 intro a0 a1 a2 a3 a4 a5 k
 unfold Rf.f
 repeat' first
   | (with_reducible exact ld.mono _ _ _)
   | (with_reducible exact Nb.refl _)
   | (with_reducible exact Nb.none _)
   | (with_reducible refine Nb.ite ?_ ?_)
   | (with_reducible refine Nb.bind ?_ (fun _=>?_))
   | exact ld.mono _ _ _
   | exact Nb.none _
   | refine Nb.ite ?_ ?_
   | refine Nb.bind ?_ (fun _=>?_)
theorem Rf.calls (k:Nat) (Eb:Option Addr) (Db:Nat) (Ta:List (Km)) (Pa:Int) (Oa:Int) (Ma:Int) (Vc:Int) (a1:Int) (r:Int) (w:World) (Kf:Kd.C ez w Eb Ta.length Ta) (Gf:Ta.length ≤ Db) (h:Rf.f k Ta Pa Oa Ma Vc a1=some r) :
  Calls Try.prog 86 #[.agg #[.slice Eb Ta.length Db,.int .i64 Pa,.int .i64 Oa,.int .i64 Ma,.int .i64 Vc],.int .i64 a1] w fun e w'=>e = .returned (.int .i64 r)∧Below w.heap.size w w':=by
 have eL:=Try.underlying118
 have Uf:=ja.mk Kf
 have ig:=ja.mk Gf
 clear Kf Gf
 have HB:=ja.mk (Below.refl w.heap.size w)
 have H:((ld.f k Ta a1).bind fun t102=>(if t102 < 0 then (some (-1)) else (some t102)))=some r:=h
 clear h
 replace H:=Option.bind_eq_some_iff.mp H
 obtain ⟨t102,tw,H⟩:=H
 replace H:(if t102 < 0 then (some (-1)) else (some t102))=some r:=H
 have A3:=ja.mk tw
 clear tw
 by_cases c4:t102 < 0
 ·rw [if_pos c4] at H
  have si:decide (t102 < 0)=true:=decide_eq_true c4
  clear c4
  obtain rfl:=Option.some.inj H
  go_enter Try.func86,Try.ntmps86
  go_wp2_with (first|((with_reducible refine Pb (N:=2) rfl ?_);refine Kb ?hg (N:=2) ?hd (cs:=#[.slice Eb Ta.length Db,.int .i64 Pa,.int .i64 Oa,.int .i64 Ma,.int .i64 Vc]) (t:=118) ?hr ?_;(case hd=>rfl);(case hg=>rfl);(case hr=>first|(go_simp;done)|(go_simp;rfl));intro Da hg w5 Yb hb;have Qb:=ja.mk (Na (by repeat (first|(with_reducible first|exact HB.out|apply qa|apply ia|apply ua)|exact HB.out)) hb);have uc:=ja.mk (Yb);have Qc:=ja.mk ((by rw [hg];exact (Qa (by repeat (first|(with_reducible first|exact HB.out|apply qa|apply ia|apply ua)|exact HB.out))):w.heap.size ≤ Da));have Td:=ja.mk ((by rw [hg];exact (Qa (by repeat (first|(with_reducible first|exact HB.out|apply qa|apply ia|apply ua)|exact HB.out))):w.heap.size ≤ Da));clear HB;have HB:=Qb;have za:=uc;have Vf:=Qc;have Wa:=Td;clear Qb uc Qc Td hb Yb hg;have JL:w5.cell? ⟨Da,0,none⟩=some (.slice Eb Ta.length Db):=(ga za.out 0).trans rfl;have IL:w5.cell? ⟨Da,1,none⟩=some (.int .i64 Pa):=(ga za.out 1).trans rfl;have HL:w5.cell? ⟨Da,2,none⟩=some (.int .i64 Oa):=(ga za.out 2).trans rfl;have GL:w5.cell? ⟨Da,3,none⟩=some (.int .i64 Ma):=(ga za.out 3).trans rfl;have FL:w5.cell? ⟨Da,4,none⟩=some (.int .i64 Vc):=(ga za.out 4).trans rfl;have wL:=aa za.out 0;have vL:=aa za.out 1;have uL:=aa za.out 2;have tL:=aa za.out 3;have sL:=aa za.out 4)|((with_reducible refine xb (f:=110) rfl ?_);refine qd (some 8) rfl rfl Try.func110 (by kernel_rfl) rfl #[.slice Eb Ta.length Db,.int .i64 a1] rfl (by (try simp only [List.map_toArray,List.map_cons,List.map_nil]);first|done|rfl|(simp only [List.length_drop,List.length_take];rfl)) ?_;(with_reducible refine (ld.calls k _ _ Ta a1 t102 _ ?side1 ?side2 A3.out).mono ?_);(case side1=>repeat (first|exact (Kd.Mb Uf.out HB.out)|(with_reducible refine Kd.Lc ?_ _)|(with_reducible refine Kd.Jc ?_ _)|(with_reducible refine Kd.Ed ?_)));(case side2=>exact ig.out);rintro e w7 ⟨rfl,hb⟩;refine ⟨_,rfl,?_⟩;have Qb:=ja.mk (Ya (g:=Da) (o:=.cells #[.slice Eb Ta.length Db,.int .i64 Pa,.int .i64 Oa,.int .i64 Ma,.int .i64 Vc] 118 (0,0)) (by (with_reducible repeat (first|refine Ga ?_ _|refine Ia ?_|refine Fa ?_ _));exact za.out) hb);have uc:=ja.mk (Na (by repeat (first|(with_reducible first|exact HB.out|apply qa|apply ia|apply ua|refine Aa ?_ Wa.out)|exact HB.out)) hb);clear za HB;have za:=Qb;have HB:=uc;clear Qb uc;(try clear hb);(try clear hb2);(try clear hk);(try clear hi)))
  go_ret
  exact ⟨by first|rfl|(simp [La,Ka] <;> rfl)|(simp [*,La,Ka] <;> rfl),by repeat (first|(with_reducible first|exact HB.out|apply qa|apply ia|apply ua|refine Aa ?_ Wa.out)|exact HB.out)⟩
 ·rw [if_neg c4] at H
  have si:decide (t102 < 0)=false:=decide_eq_false c4
  clear c4
  obtain rfl:=Option.some.inj H
  go_enter Try.func86,Try.ntmps86
  go_wp2_with (first|((with_reducible refine Pb (N:=2) rfl ?_);refine Kb ?hg (N:=2) ?hd (cs:=#[.slice Eb Ta.length Db,.int .i64 Pa,.int .i64 Oa,.int .i64 Ma,.int .i64 Vc]) (t:=118) ?hr ?_;(case hd=>rfl);(case hg=>rfl);(case hr=>first|(go_simp;done)|(go_simp;rfl));intro Da hg w8 Yb hb;have Qb:=ja.mk (Na (by repeat (first|(with_reducible first|exact HB.out|apply qa|apply ia|apply ua)|exact HB.out)) hb);have uc:=ja.mk (Yb);have Qc:=ja.mk ((by rw [hg];exact (Qa (by repeat (first|(with_reducible first|exact HB.out|apply qa|apply ia|apply ua)|exact HB.out))):w.heap.size ≤ Da));have Td:=ja.mk ((by rw [hg];exact (Qa (by repeat (first|(with_reducible first|exact HB.out|apply qa|apply ia|apply ua)|exact HB.out))):w.heap.size ≤ Da));clear HB;have HB:=Qb;have za:=uc;have Vf:=Qc;have Wa:=Td;clear Qb uc Qc Td hb Yb hg;have Ko:w8.cell? ⟨Da,0,none⟩=some (.slice Eb Ta.length Db):=(ga za.out 0).trans rfl;have Jo:w8.cell? ⟨Da,1,none⟩=some (.int .i64 Pa):=(ga za.out 1).trans rfl;have Io:w8.cell? ⟨Da,2,none⟩=some (.int .i64 Oa):=(ga za.out 2).trans rfl;have Ho:w8.cell? ⟨Da,3,none⟩=some (.int .i64 Ma):=(ga za.out 3).trans rfl;have Fo:w8.cell? ⟨Da,4,none⟩=some (.int .i64 Vc):=(ga za.out 4).trans rfl;have Eo:=aa za.out 0;have Co:=aa za.out 1;have Bo:=aa za.out 2;have Ao:=aa za.out 3;have zo:=aa za.out 4)|((with_reducible refine xb (f:=110) rfl ?_);refine qd (some 8) rfl rfl Try.func110 (by kernel_rfl) rfl #[.slice Eb Ta.length Db,.int .i64 a1] rfl (by (try simp only [List.map_toArray,List.map_cons,List.map_nil]);first|done|rfl|(simp only [List.length_drop,List.length_take];rfl)) ?_;(with_reducible refine (ld.calls k _ _ Ta a1 t102 _ ?side1 ?side2 A3.out).mono ?_);(case side1=>repeat (first|exact (Kd.Mb Uf.out HB.out)|(with_reducible refine Kd.Lc ?_ _)|(with_reducible refine Kd.Jc ?_ _)|(with_reducible refine Kd.Ed ?_)));(case side2=>exact ig.out);rintro e jq ⟨rfl,hb⟩;refine ⟨_,rfl,?_⟩;have Qb:=ja.mk (Ya (g:=Da) (o:=.cells #[.slice Eb Ta.length Db,.int .i64 Pa,.int .i64 Oa,.int .i64 Ma,.int .i64 Vc] 118 (0,0)) (by (with_reducible repeat (first|refine Ga ?_ _|refine Ia ?_|refine Fa ?_ _));exact za.out) hb);have uc:=ja.mk (Na (by repeat (first|(with_reducible first|exact HB.out|apply qa|apply ia|apply ua|refine Aa ?_ Wa.out)|exact HB.out)) hb);clear za HB;have za:=Qb;have HB:=uc;clear Qb uc;(try clear hb);(try clear hb2);(try clear hk);(try clear hi)))
  go_ret
  exact ⟨by first|rfl|(simp [La,Ka] <;> rfl)|(simp [*,La,Ka] <;> rfl),by repeat (first|(with_reducible first|exact HB.out|apply qa|apply ia|apply ua|refine Aa ?_ Wa.out)|exact HB.out)⟩
def Xc.l0:Nat→List (Dl)→Int→Int→Option (Int)
 | 0,_,_,_=>none
 | k + 1,x0,x1,x5=>if x5 < (x0.length:Int) then (if 0 ≤ x5 then ((Rf.f k ((De x0 x5).f0) ((De x0 x5).f1) ((De x0 x5).f2) ((De x0 x5).f3) ((De x0 x5).f4) x1).bind fun t102=>(if t102 < 0 then (some (-1)) else (Xc.l0 k x0 t102 (wrap64 (x5 + 1))))) else (none)) else (some x1)
def Xc.f (k:Nat) (l0:List (Dl)) (a1:Int):Option (Int):=if (wrap64 (a1 - (l0.length:Int))) < 0 then (some (-1)) else (Xc.l0 k l0 (wrap64 (a1 - (l0.length:Int))) 0)
theorem Xc.Qd:∀ k,(∀ y0 y1 y2,Nb (Xc.l0 k y0 y1 y2) (Xc.l0 (k + 1) y0 y1 y2))
 | 0=>fun _ _ _ r h=>by simp [Xc.l0] at h
 | k + 1=>by
  have Ff:=Xc.Qd k
  ·intro y0 y1 y2
   unfold Xc.l0
   repeat' first
   | (with_reducible exact Ff _ _ _)
   | (with_reducible exact Rf.mono _ _ _ _ _ _ _)
   | (with_reducible exact Nb.refl _)
   | (with_reducible exact Nb.none _)
   | (with_reducible refine Nb.ite ?_ ?_)
   | (with_reducible refine Nb.bind ?_ (fun _=>?_))
   | exact Ff _ _ _
   | exact Rf.mono _ _ _ _ _ _ _
   | exact Nb.none _
   | refine Nb.ite ?_ ?_
   | refine Nb.bind ?_ (fun _=>?_)
theorem Xc.mono:∀ a0 a1 k,Nb (Xc.f k a0 a1) (Xc.f (k + 1) a0 a1):=by
 intro a0 a1 k
 have Ff:=Xc.Qd k
 unfold Xc.f
 repeat' first
   | (with_reducible exact Ff _ _ _)
   | (with_reducible exact Rf.mono _ _ _ _ _ _ _)
   | (with_reducible exact Nb.refl _)
   | (with_reducible exact Nb.none _)
   | (with_reducible refine Nb.ite ?_ ?_)
   | (with_reducible refine Nb.bind ?_ (fun _=>?_))
   | exact Ff _ _ _
   | exact Rf.mono _ _ _ _ _ _ _
   | exact Nb.none _
   | refine Nb.ite ?_ ?_
   | refine Nb.bind ?_ (fun _=>?_)
theorem Xc.calls (k:Nat) (A0:Option Addr) (c0:Nat) (l0:List (Dl)) (a1:Int) (r:Int) (w:World) (hr0:Kd.C fz w A0 l0.length l0) (hc0:l0.length ≤ c0) (h:Xc.f k l0 a1=some r) :
  Calls Try.prog 52 #[.slice A0 l0.length c0,.int .i64 a1] w fun e w'=>e = .returned (.int .i64 r)∧Below w.heap.size w w':=by
 have eL:=Try.underlying118
 have Bh:=ja.mk hr0
 have Rw:=ja.mk hc0
 clear hr0 hc0
 have HB:=ja.mk (Below.refl w.heap.size w)
 have H:(if (wrap64 (a1 - (l0.length:Int))) < 0 then (some (-1)) else (Xc.l0 k l0 (wrap64 (a1 - (l0.length:Int))) 0))=some r:=h
 clear h
 by_cases c3:(wrap64 (a1 - (l0.length:Int))) < 0
 ·rw [if_pos c3] at H
  have Jh:decide ((wrap64 (a1 - (l0.length:Int))) < 0)=true:=decide_eq_true c3
  clear c3
  obtain rfl:=Option.some.inj H
  go_enter Try.func52,Try.ntmps52
  go_wp2
  go_ret
  exact ⟨by first|rfl|(simp [La,Ka] <;> rfl)|(simp [*,La,Ka] <;> rfl),by repeat (first|(with_reducible first|exact HB.out|apply qa|apply ia|apply ua)|exact HB.out)⟩
 ·rw [if_neg c3] at H
  have Jh:decide ((wrap64 (a1 - (l0.length:Int))) < 0)=false:=decide_eq_false c3
  clear c3
  have H':=ja.mk H
  clear H
  go_enter Try.func52,Try.ntmps52
  go_wp2
  go_loopg [1,5] k (fun kq v1 v5 w'=>∃ (Gc:Int) (Ca:Int),v1 = .int .i64 Gc∧v5 = .int .i64 Ca∧ja (Xc.l0 kq l0 Gc Ca=some r)∧ja (kq ≤ k)∧ja (Below w.heap.size w w'))
  case atStart=>exact ⟨(wrap64 (a1 - (l0.length:Int))),(0),(by first|rfl|(simp;done)|(simp [*];done)),(by first|rfl|(simp;done)|(simp [*];done)),H',⟨Nat.le_refl _⟩,⟨by repeat (first|(with_reducible first|exact HB.out|apply qa|apply ia|apply ua)|exact HB.out)⟩⟩
  case round =>
   clear H'
   try clear p2
   try clear c3
   try clear Jh
   (try clear HA)
   (try clear Ig)
   (try clear HB)
   obtain ⟨Gc,Ca,rfl,rfl,HA,Ig,HB⟩:=hrel
   cases gk with
   | zero=>exact absurd HA.out (by simp [Xc.l0])
   | succ k1 =>
    have H:=HA.out
    clear HA
    simp only [Xc.l0] at H
    by_cases c4:Ca < (l0.length:Int)
    ·rw [if_pos c4] at H
     have si:decide (Ca < (l0.length:Int))=true:=decide_eq_true c4
     clear c4
     by_cases c5:0 ≤ Ca
     ·rw [if_pos c5] at H
      have Ok:decide (0 ≤ Ca)=true:=decide_eq_true c5
      clear c5
      replace H:=Option.bind_eq_some_iff.mp H
      obtain ⟨t102,jS,H⟩:=H
      replace H:(if t102 < 0 then (some (-1)) else (Xc.l0 k1 l0 t102 (wrap64 (Ca + 1))))=some r:=H
      have A6:=ja.mk jS
      clear jS
      by_cases c7:t102 < 0
      ·rw [if_pos c7] at H
       have Uo:decide (t102 < 0)=true:=decide_eq_true c7
       clear c7
       obtain rfl:=Option.some.inj H
       have Vd:0 ≤ (Ca:Int):=of_decide_eq_true (by first|(with_reducible assumption)|assumption)
       have Ud:Ca < (l0.length:Int):=of_decide_eq_true (by first|(with_reducible assumption)|assumption)
       obtain ⟨ic,Ri,Qi,Eg,Ob,Vb,Ub,Tb,Cc,Cg,Dg⟩:=cD Bh.out Ca Vd Ud
       cases Eg
       replace Ob:=(HB.out.cell (World.block_lt_of_cell? w _ Ob)).trans Ob
       replace Vb:=(HB.out.cell (World.block_lt_of_cell? w _ Vb)).trans Vb
       replace Ub:=(HB.out.cell (World.block_lt_of_cell? w _ Ub)).trans Ub
       replace Tb:=(HB.out.cell (World.block_lt_of_cell? w _ Tb)).trans Tb
       replace Cc:=(HB.out.cell (World.block_lt_of_cell? w _ Cc)).trans Cc
       have Mh:=ja.mk Dg
       have Uh:=ja.mk Cg
       clear Dg Cg
       replace Vd:=eq_true Vd
       replace Ud:=eq_true Ud
       go_wp2_with (first|((with_reducible refine xb (f:=86) rfl ?_);refine qd (some 23) rfl rfl Try.func86 (by kernel_rfl) rfl #[.agg #[.slice Ri ((De l0 Ca).f0).length Qi,.int .i64 ((De l0 Ca).f1),.int .i64 ((De l0 Ca).f2),.int .i64 ((De l0 Ca).f3),.int .i64 ((De l0 Ca).f4)],.int .i64 Gc] rfl (by (try simp only [List.map_toArray,List.map_cons,List.map_nil]);first|done|rfl|(simp only [List.length_drop,List.length_take];rfl)) ?_;(with_reducible refine (Rf.calls k1 _ _ ((De l0 Ca).f0) ((De l0 Ca).f1) ((De l0 Ca).f2) ((De l0 Ca).f3) ((De l0 Ca).f4) Gc t102 _ ?side1 ?side2 A6.out).mono ?_);(case side1=>repeat (first|exact (Kd.Mb Mh.out HB.out)|(with_reducible refine Kd.Lc ?_ _)|(with_reducible refine Kd.Jc ?_ _)|(with_reducible refine Kd.Ed ?_)));(case side2=>exact Uh.out);rintro e w8 ⟨rfl,hb⟩;refine ⟨_,rfl,?_⟩;have Qb:=ja.mk (Na (by repeat (first|(with_reducible first|exact HB.out|apply qa|apply ia|apply ua)|exact HB.out)) hb);clear HB;have HB:=Qb;clear Qb;(try clear hb);(try clear hb2);(try clear hk);(try clear hi)))
       go_ret
       exact ⟨by first|rfl|(simp [La,Ka] <;> rfl)|(simp [*,La,Ka] <;> rfl),by repeat (first|(with_reducible first|exact HB.out|apply qa|apply ia|apply ua)|exact HB.out)⟩
      ·rw [if_neg c7] at H
       have Uo:decide (t102 < 0)=false:=decide_eq_false c7
       clear c7
       have H':=ja.mk H
       clear H
       have Vd:0 ≤ (Ca:Int):=of_decide_eq_true (by first|(with_reducible assumption)|assumption)
       have Ud:Ca < (l0.length:Int):=of_decide_eq_true (by first|(with_reducible assumption)|assumption)
       obtain ⟨ic,Ri,Qi,Eg,Ob,Vb,Ub,Tb,Cc,Cg,Dg⟩:=cD Bh.out Ca Vd Ud
       cases Eg
       replace Ob:=(HB.out.cell (World.block_lt_of_cell? w _ Ob)).trans Ob
       replace Vb:=(HB.out.cell (World.block_lt_of_cell? w _ Vb)).trans Vb
       replace Ub:=(HB.out.cell (World.block_lt_of_cell? w _ Ub)).trans Ub
       replace Tb:=(HB.out.cell (World.block_lt_of_cell? w _ Tb)).trans Tb
       replace Cc:=(HB.out.cell (World.block_lt_of_cell? w _ Cc)).trans Cc
       have Mh:=ja.mk Dg
       have Uh:=ja.mk Cg
       clear Dg Cg
       replace Vd:=eq_true Vd
       replace Ud:=eq_true Ud
       go_wp2_with (first|((with_reducible refine xb (f:=86) rfl ?_);refine qd (some 23) rfl rfl Try.func86 (by kernel_rfl) rfl #[.agg #[.slice Ri ((De l0 Ca).f0).length Qi,.int .i64 ((De l0 Ca).f1),.int .i64 ((De l0 Ca).f2),.int .i64 ((De l0 Ca).f3),.int .i64 ((De l0 Ca).f4)],.int .i64 Gc] rfl (by (try simp only [List.map_toArray,List.map_cons,List.map_nil]);first|done|rfl|(simp only [List.length_drop,List.length_take];rfl)) ?_;(with_reducible refine (Rf.calls k1 _ _ ((De l0 Ca).f0) ((De l0 Ca).f1) ((De l0 Ca).f2) ((De l0 Ca).f3) ((De l0 Ca).f4) Gc t102 _ ?side1 ?side2 A6.out).mono ?_);(case side1=>repeat (first|exact (Kd.Mb Mh.out HB.out)|(with_reducible refine Kd.Lc ?_ _)|(with_reducible refine Kd.Jc ?_ _)|(with_reducible refine Kd.Ed ?_)));(case side2=>exact Uh.out);rintro e w9 ⟨rfl,hb⟩;refine ⟨_,rfl,?_⟩;have Qb:=ja.mk (Na (by repeat (first|(with_reducible first|exact HB.out|apply qa|apply ia|apply ua)|exact HB.out)) hb);clear HB;have HB:=Qb;clear Qb;(try clear hb);(try clear hb2);(try clear hk);(try clear hi)))
       go_roundg k1
       case measure=>have:=Ig.out;omega
       case rel=>exact ⟨(t102),(wrap64 (Ca + 1)),(by first|rfl|(simp;done)|(simp [*];done)),(by first|rfl|(simp;done)|(simp [*];done)),H',⟨by have:=Ig.out;omega⟩,⟨by repeat (first|(with_reducible first|exact HB.out|apply qa|apply ia|apply ua)|exact HB.out)⟩⟩
     ·rw [if_neg c5] at H
      exact absurd H (by simp)
    ·rw [if_neg c4] at H
     have si:decide (Ca < (l0.length:Int))=false:=decide_eq_false c4
     clear c4
     obtain rfl:=Option.some.inj H
     go_wp2
     go_ret
     exact ⟨by first|rfl|(simp [La,Ka] <;> rfl)|(simp [*,La,Ka] <;> rfl),by repeat (first|(with_reducible first|exact HB.out|apply qa|apply ia|apply ua)|exact HB.out)⟩
def Og.f (k:Nat) (Ta:List Int) (Pa:Int) (Oa:Int) (Ma:Int) (Ra:List (Dl)) (a1:Int):Option (Int):=(Ii.f Ta a1).bind fun t102=>(if t102 < 0 then (some (-1)) else ((Xc.f k Ra t102).bind fun t103=>(if t103 < 0 then (some (-1)) else (some t103))))
theorem Og.mono:∀ a0 a1 a2 a3 a4 a5 k,Nb (Og.f k a0 a1 a2 a3 a4 a5) (Og.f (k + 1) a0 a1 a2 a3 a4 a5):=by
 intro a0 a1 a2 a3 a4 a5 k
 unfold Og.f
 repeat' first
   | (with_reducible exact Xc.mono _ _ _)
   | (with_reducible exact Nb.refl _)
   | (with_reducible exact Nb.none _)
   | (with_reducible refine Nb.ite ?_ ?_)
   | (with_reducible refine Nb.bind ?_ (fun _=>?_))
   | exact Xc.mono _ _ _
   | exact Nb.none _
   | refine Nb.ite ?_ ?_
   | refine Nb.bind ?_ (fun _=>?_)
theorem Og.calls (k:Nat) (Eb:Option Addr) (Db:Nat) (Ta:List Int) (Pa:Int) (Oa:Int) (Ma:Int) (yc:Option Addr) (Zb:Nat) (Ra:List (Dl)) (a1:Int) (r:Int) (w:World) (Kf:Kd.C (Kd.int .i64) w Eb Ta.length Ta) (Gf:Ta.length ≤ Db) (Bg:Kd.C fz w yc Ra.length Ra) (Jg:Ra.length ≤ Zb) (h:Og.f k Ta Pa Oa Ma Ra a1=some r) :
  Calls Try.prog 13 #[.agg #[.slice Eb Ta.length Db,.int .i64 Pa,.int .i64 Oa,.int .i64 Ma,.slice yc Ra.length Zb],.int .i64 a1] w fun e w'=>e = .returned (.int .i64 r)∧Below w.heap.size w w':=by
 have Yad:=Try.underlying25
 have Uf:=ja.mk Kf
 have ig:=ja.mk Gf
 clear Kf Gf
 have Zg:=ja.mk Bg
 have Li:=ja.mk Jg
 clear Bg Jg
 have HB:=ja.mk (Below.refl w.heap.size w)
 have H:((Ii.f Ta a1).bind fun t102=>(if t102 < 0 then (some (-1)) else ((Xc.f k Ra t102).bind fun t103=>(if t103 < 0 then (some (-1)) else (some t103)))))=some r:=h
 clear h
 replace H:=Option.bind_eq_some_iff.mp H
 obtain ⟨t102,tw,H⟩:=H
 replace H:(if t102 < 0 then (some (-1)) else ((Xc.f k Ra t102).bind fun t103=>(if t103 < 0 then (some (-1)) else (some t103))))=some r:=H
 have A3:=ja.mk tw
 clear tw
 by_cases c4:t102 < 0
 ·rw [if_pos c4] at H
  have si:decide (t102 < 0)=true:=decide_eq_true c4
  clear c4
  obtain rfl:=Option.some.inj H
  go_enter Try.func13,Try.ntmps13
  go_wp2_with (first|((with_reducible refine Pb (N:=2) rfl ?_);refine Kb ?hg (N:=2) ?hd (cs:=#[.slice Eb Ta.length Db,.int .i64 Pa,.int .i64 Oa,.int .i64 Ma,.slice yc Ra.length Zb]) (t:=25) ?hr ?_;(case hd=>rfl);(case hg=>rfl);(case hr=>first|(go_simp;done)|(go_simp;rfl));intro Da hg w5 Yb hb;have Qb:=ja.mk (Na (by repeat (first|(with_reducible first|exact HB.out|apply qa|apply ia|apply ua)|exact HB.out)) hb);have uc:=ja.mk (Yb);have Qc:=ja.mk ((by rw [hg];exact (Qa (by repeat (first|(with_reducible first|exact HB.out|apply qa|apply ia|apply ua)|exact HB.out))):w.heap.size ≤ Da));have Td:=ja.mk ((by rw [hg];exact (Qa (by repeat (first|(with_reducible first|exact HB.out|apply qa|apply ia|apply ua)|exact HB.out))):w.heap.size ≤ Da));clear HB;have HB:=Qb;have za:=uc;have Vf:=Qc;have Wa:=Td;clear Qb uc Qc Td hb Yb hg;have JL:w5.cell? ⟨Da,0,none⟩=some (.slice Eb Ta.length Db):=(ga za.out 0).trans rfl;have IL:w5.cell? ⟨Da,1,none⟩=some (.int .i64 Pa):=(ga za.out 1).trans rfl;have HL:w5.cell? ⟨Da,2,none⟩=some (.int .i64 Oa):=(ga za.out 2).trans rfl;have GL:w5.cell? ⟨Da,3,none⟩=some (.int .i64 Ma):=(ga za.out 3).trans rfl;have FL:w5.cell? ⟨Da,4,none⟩=some (.slice yc Ra.length Zb):=(ga za.out 4).trans rfl;have wL:=aa za.out 0;have vL:=aa za.out 1;have uL:=aa za.out 2;have tL:=aa za.out 3;have sL:=aa za.out 4)|((with_reducible refine xb (f:=51) rfl ?_);refine qd (some 8) rfl rfl Try.func51 (by kernel_rfl) rfl #[.slice Eb Ta.length Db,.int .i64 a1] rfl (by (try simp only [List.map_toArray,List.map_cons,List.map_nil]);first|done|rfl|(simp only [List.length_drop,List.length_take];rfl)) ?_;(with_reducible refine (Ii.calls _ _ Ta a1 t102 _ ?side1 ?side2 A3.out).mono ?_);(case side1=>repeat (first|exact (Kd.Mb Uf.out HB.out)|(with_reducible refine Kd.Lc ?_ _)|(with_reducible refine Kd.Jc ?_ _)|(with_reducible refine Kd.Ed ?_)));(case side2=>exact ig.out);rintro e w' ⟨rfl,⟨nd,rfl⟩⟩;refine ⟨_,rfl,?_⟩))
  go_ret
  exact ⟨by first|rfl|(simp [La,Ka] <;> rfl)|(simp [*,La,Ka] <;> rfl),by repeat (first|(with_reducible first|exact HB.out|apply qa|apply ia|apply ua|refine Aa ?_ Wa.out)|exact HB.out)⟩
 ·rw [if_neg c4] at H
  have si:decide (t102 < 0)=false:=decide_eq_false c4
  clear c4
  replace H:=Option.bind_eq_some_iff.mp H
  obtain ⟨t103,Gx,H⟩:=H
  replace H:(if t103 < 0 then (some (-1)) else (some t103))=some r:=H
  have A7:=ja.mk Gx
  clear Gx
  by_cases c8:t103 < 0
  ·rw [if_pos c8] at H
   have Yl:decide (t103 < 0)=true:=decide_eq_true c8
   clear c8
   obtain rfl:=Option.some.inj H
   go_enter Try.func13,Try.ntmps13
   go_wp2_with (first|((with_reducible refine Pb (N:=2) rfl ?_);refine Kb ?hg (N:=2) ?hd (cs:=#[.slice Eb Ta.length Db,.int .i64 Pa,.int .i64 Oa,.int .i64 Ma,.slice yc Ra.length Zb]) (t:=25) ?hr ?_;(case hd=>rfl);(case hg=>rfl);(case hr=>first|(go_simp;done)|(go_simp;rfl));intro Da hg w9 Yb hb;have Qb:=ja.mk (Na (by repeat (first|(with_reducible first|exact HB.out|apply qa|apply ia|apply ua)|exact HB.out)) hb);have uc:=ja.mk (Yb);have Qc:=ja.mk ((by rw [hg];exact (Qa (by repeat (first|(with_reducible first|exact HB.out|apply qa|apply ia|apply ua)|exact HB.out))):w.heap.size ≤ Da));have Td:=ja.mk ((by rw [hg];exact (Qa (by repeat (first|(with_reducible first|exact HB.out|apply qa|apply ia|apply ua)|exact HB.out))):w.heap.size ≤ Da));clear HB;have HB:=Qb;have za:=uc;have Vf:=Qc;have Wa:=Td;clear Qb uc Qc Td hb Yb hg;have Ak:w9.cell? ⟨Da,0,none⟩=some (.slice Eb Ta.length Db):=(ga za.out 0).trans rfl;have zk:w9.cell? ⟨Da,1,none⟩=some (.int .i64 Pa):=(ga za.out 1).trans rfl;have xk:w9.cell? ⟨Da,2,none⟩=some (.int .i64 Oa):=(ga za.out 2).trans rfl;have wk:w9.cell? ⟨Da,3,none⟩=some (.int .i64 Ma):=(ga za.out 3).trans rfl;have jl:w9.cell? ⟨Da,4,none⟩=some (.slice yc Ra.length Zb):=(ga za.out 4).trans rfl;have vk:=aa za.out 0;have uk:=aa za.out 1;have qk:=aa za.out 2;have nk:=aa za.out 3;have Wk:=aa za.out 4)|((with_reducible refine xb (f:=51) rfl ?_);refine qd (some 8) rfl rfl Try.func51 (by kernel_rfl) rfl #[.slice Eb Ta.length Db,.int .i64 a1] rfl (by (try simp only [List.map_toArray,List.map_cons,List.map_nil]);first|done|rfl|(simp only [List.length_drop,List.length_take];rfl)) ?_;(with_reducible refine (Ii.calls _ _ Ta a1 t102 _ ?side1 ?side2 A3.out).mono ?_);(case side1=>repeat (first|exact (Kd.Mb Uf.out HB.out)|(with_reducible refine Kd.Lc ?_ _)|(with_reducible refine Kd.Jc ?_ _)|(with_reducible refine Kd.Ed ?_)));(case side2=>exact ig.out);rintro e w' ⟨rfl,⟨nd,rfl⟩⟩;refine ⟨_,rfl,?_⟩)|((with_reducible refine xb (f:=52) rfl ?_);refine qd (some 14) rfl rfl Try.func52 (by kernel_rfl) rfl #[.slice yc Ra.length Zb,.int .i64 t102] rfl (by (try simp only [List.map_toArray,List.map_cons,List.map_nil]);first|done|rfl|(simp only [List.length_drop,List.length_take];rfl)) ?_;(with_reducible refine (Xc.calls k _ _ Ra t102 t103 _ ?side1 ?side2 A7.out).mono ?_);(case side1=>repeat (first|exact (Kd.Mb Zg.out (by repeat (first|(with_reducible first|exact HB.out|apply qa|apply ia|apply ua|refine Aa ?_ Wa.out)|exact HB.out)))|(with_reducible refine Kd.Lc ?_ _)|(with_reducible refine Kd.Jc ?_ _)|(with_reducible refine Kd.Ed ?_)));(case side2=>exact Li.out);rintro e Ei ⟨rfl,hb⟩;refine ⟨_,rfl,?_⟩;have Qb:=ja.mk (Ya (g:=Da) (o:=.cells #[.slice Eb Ta.length Db,.int .i64 Pa,.int .i64 Oa,.int .i64 Ma,.slice yc Ra.length Zb] 25 (0,0)) (by (with_reducible repeat (first|refine Ga ?_ _|refine Ia ?_|refine Fa ?_ _));exact za.out) hb);have uc:=ja.mk (Na (by repeat (first|(with_reducible first|exact HB.out|apply qa|apply ia|apply ua|refine Aa ?_ Wa.out)|exact HB.out)) hb);clear za HB;have za:=Qb;have HB:=uc;clear Qb uc;(try clear hb);(try clear hb2);(try clear hk);(try clear hi)))
   go_ret
   exact ⟨by first|rfl|(simp [La,Ka] <;> rfl)|(simp [*,La,Ka] <;> rfl),by repeat (first|(with_reducible first|exact HB.out|apply qa|apply ia|apply ua|refine Aa ?_ Wa.out)|exact HB.out)⟩
  ·rw [if_neg c8] at H
   have Yl:decide (t103 < 0)=false:=decide_eq_false c8
   clear c8
   obtain rfl:=Option.some.inj H
   go_enter Try.func13,Try.ntmps13
   go_wp2_with (first|((with_reducible refine Pb (N:=2) rfl ?_);refine Kb ?hg (N:=2) ?hd (cs:=#[.slice Eb Ta.length Db,.int .i64 Pa,.int .i64 Oa,.int .i64 Ma,.slice yc Ra.length Zb]) (t:=25) ?hr ?_;(case hd=>rfl);(case hg=>rfl);(case hr=>first|(go_simp;done)|(go_simp;rfl));intro Da hg sA Yb hb;have Qb:=ja.mk (Na (by repeat (first|(with_reducible first|exact HB.out|apply qa|apply ia|apply ua)|exact HB.out)) hb);have uc:=ja.mk (Yb);have Qc:=ja.mk ((by rw [hg];exact (Qa (by repeat (first|(with_reducible first|exact HB.out|apply qa|apply ia|apply ua)|exact HB.out))):w.heap.size ≤ Da));have Td:=ja.mk ((by rw [hg];exact (Qa (by repeat (first|(with_reducible first|exact HB.out|apply qa|apply ia|apply ua)|exact HB.out))):w.heap.size ≤ Da));clear HB;have HB:=Qb;have za:=uc;have Vf:=Qc;have Wa:=Td;clear Qb uc Qc Td hb Yb hg;have Qj:sA.cell? ⟨Da,0,none⟩=some (.slice Eb Ta.length Db):=(ga za.out 0).trans rfl;have Pj:sA.cell? ⟨Da,1,none⟩=some (.int .i64 Pa):=(ga za.out 1).trans rfl;have Xn:sA.cell? ⟨Da,2,none⟩=some (.int .i64 Oa):=(ga za.out 2).trans rfl;have Wn:sA.cell? ⟨Da,3,none⟩=some (.int .i64 Ma):=(ga za.out 3).trans rfl;have Vn:sA.cell? ⟨Da,4,none⟩=some (.slice yc Ra.length Zb):=(ga za.out 4).trans rfl;have Oj:=aa za.out 0;have Mj:=aa za.out 1;have Sn:=aa za.out 2;have Rn:=aa za.out 3;have Qn:=aa za.out 4)|((with_reducible refine xb (f:=51) rfl ?_);refine qd (some 8) rfl rfl Try.func51 (by kernel_rfl) rfl #[.slice Eb Ta.length Db,.int .i64 a1] rfl (by (try simp only [List.map_toArray,List.map_cons,List.map_nil]);first|done|rfl|(simp only [List.length_drop,List.length_take];rfl)) ?_;(with_reducible refine (Ii.calls _ _ Ta a1 t102 _ ?side1 ?side2 A3.out).mono ?_);(case side1=>repeat (first|exact (Kd.Mb Uf.out HB.out)|(with_reducible refine Kd.Lc ?_ _)|(with_reducible refine Kd.Jc ?_ _)|(with_reducible refine Kd.Ed ?_)));(case side2=>exact ig.out);rintro e w' ⟨rfl,⟨nd,rfl⟩⟩;refine ⟨_,rfl,?_⟩)|((with_reducible refine xb (f:=52) rfl ?_);refine qd (some 14) rfl rfl Try.func52 (by kernel_rfl) rfl #[.slice yc Ra.length Zb,.int .i64 t102] rfl (by (try simp only [List.map_toArray,List.map_cons,List.map_nil]);first|done|rfl|(simp only [List.length_drop,List.length_take];rfl)) ?_;(with_reducible refine (Xc.calls k _ _ Ra t102 t103 _ ?side1 ?side2 A7.out).mono ?_);(case side1=>repeat (first|exact (Kd.Mb Zg.out (by repeat (first|(with_reducible first|exact HB.out|apply qa|apply ia|apply ua|refine Aa ?_ Wa.out)|exact HB.out)))|(with_reducible refine Kd.Lc ?_ _)|(with_reducible refine Kd.Jc ?_ _)|(with_reducible refine Kd.Ed ?_)));(case side2=>exact Li.out);rintro e rA ⟨rfl,hb⟩;refine ⟨_,rfl,?_⟩;have Qb:=ja.mk (Ya (g:=Da) (o:=.cells #[.slice Eb Ta.length Db,.int .i64 Pa,.int .i64 Oa,.int .i64 Ma,.slice yc Ra.length Zb] 25 (0,0)) (by (with_reducible repeat (first|refine Ga ?_ _|refine Ia ?_|refine Fa ?_ _));exact za.out) hb);have uc:=ja.mk (Na (by repeat (first|(with_reducible first|exact HB.out|apply qa|apply ia|apply ua|refine Aa ?_ Wa.out)|exact HB.out)) hb);clear za HB;have za:=Qb;have HB:=uc;clear Qb uc;(try clear hb);(try clear hb2);(try clear hk);(try clear hi)))
   go_ret
   exact ⟨by first|rfl|(simp [La,Ka] <;> rfl)|(simp [*,La,Ka] <;> rfl),by repeat (first|(with_reducible first|exact HB.out|apply qa|apply ia|apply ua|refine Aa ?_ Wa.out)|exact HB.out)⟩
def Rd.l0:Nat→List Int→List Int→Int→Option (List Int)
 | 0,_,_,_=>none
 | k + 1,x0,x3,x4=>if x4 < (x0.length:Int) then (if 0 ≤ x4 then (if x4 < (x3.length:Int) then (Rd.l0 k x0 (x3.set (x4:Int).toNat (rd x0 x4)) (wrap64 (x4 + 1))) else (none)) else (none)) else (some x3)
def Rd.f (k:Nat) (l0:List Int):Option (List Int):=if 0 ≤ (l0.length:Int) then (if ((l0.length:Int):Int).toNat ≤ 35184372088832 then (Rd.l0 k l0 (List.replicate ((l0.length:Int):Int).toNat 0) 0) else (none)) else (none)
theorem Rd.Qd:∀ k,(∀ y0 y1 y2,Nb (Rd.l0 k y0 y1 y2) (Rd.l0 (k + 1) y0 y1 y2))
 | 0=>fun _ _ _ r h=>by simp [Rd.l0] at h
 | k + 1=>by
  have Ff:=Rd.Qd k
  ·intro y0 y1 y2
   unfold Rd.l0
   repeat' first
   | (with_reducible exact Ff _ _ _)
   | (with_reducible exact Nb.refl _)
   | (with_reducible exact Nb.none _)
   | (with_reducible refine Nb.ite ?_ ?_)
   | (with_reducible refine Nb.bind ?_ (fun _=>?_))
   | exact Ff _ _ _
   | exact Nb.none _
   | refine Nb.ite ?_ ?_
   | refine Nb.bind ?_ (fun _=>?_)
theorem Rd.mono:∀ a0 k,Nb (Rd.f k a0) (Rd.f (k + 1) a0):=by
 intro a0 k
 have Ff:=Rd.Qd k
 unfold Rd.f
 repeat' first
   | (with_reducible exact Ff _ _ _)
   | (with_reducible exact Nb.refl _)
   | (with_reducible exact Nb.none _)
   | (with_reducible refine Nb.ite ?_ ?_)
   | (with_reducible refine Nb.bind ?_ (fun _=>?_))
   | exact Ff _ _ _
   | exact Nb.none _
   | refine Nb.ite ?_ ?_
   | refine Nb.bind ?_ (fun _=>?_)
theorem Rd.calls (k:Nat) (A0:Option Addr) (c0:Nat) (l0:List Int) (r:List Int) (w:World) (hr0:Kd.C (Kd.int .i64) w A0 l0.length l0) (hc0:l0.length ≤ c0) (h:Rd.f k l0=some r) :
  Calls Try.prog 25 #[.slice A0 l0.length c0] w fun e w'=>∃ v0_:Value,e = .returned (v0_)∧Kd.R (Kd.int .i64) 3 w' w.heap.size (fun _=>True) v0_ r∧Below w.heap.size w w':=by
 have Bh:=ja.mk hr0
 have Rw:=ja.mk hc0
 clear hr0 hc0
 have HB:=ja.mk (Below.refl w.heap.size w)
 have H:(if 0 ≤ (l0.length:Int) then (if ((l0.length:Int):Int).toNat ≤ 35184372088832 then (Rd.l0 k l0 (List.replicate ((l0.length:Int):Int).toNat 0) 0) else (none)) else (none))=some r:=h
 clear h
 by_cases c2:0 ≤ (l0.length:Int)
 ·rw [if_pos c2] at H
  have nA:=eq_true c2
  have XF:decide (0 ≤ (l0.length:Int))=true:=decide_eq_true c2
  clear c2
  by_cases c3:((l0.length:Int):Int).toNat ≤ 35184372088832
  ·rw [if_pos c3] at H
   have Jh:=eq_true c3
   have Zp:decide (((l0.length:Int):Int).toNat ≤ 35184372088832)=true:=decide_eq_true c3
   clear c3
   obtain ⟨ef,hy101⟩:∃ y_:List Int,y_=(List.replicate ((l0.length:Int):Int).toNat 0):=⟨_,rfl⟩
   replace H:(Rd.l0 k l0 ef 0)=some r:=by first|(rw [hy101];with_reducible exact H)|(have Vh:=(Option.bind_some _ _).symm.trans H;rw [hy101];with_reducible exact Vh)|(have Vh:=(Option.bind_some _ _).symm.trans H;with_reducible exact Vh)|with_reducible exact H|(rw [hy101];exact H)|exact H
   have Yj:=ja.mk hy101
   clear hy101
   have H':=ja.mk H
   clear H
   go_enter Try.func25,Try.ntmps25
   go_wp2_with (first|((with_reducible refine Pb (N:=7) rfl ?_);refine Kd.fG (Kd.int .i64) _ 3 rfl (N:=7) rfl 22 _ _ rfl (l0.length:Int) rfl rfl Try.underlying22 (.int .i64 0) 8 info3 rfl (by decide) (by omega) 0 (ok:=fun _=>True) (Xo:=fun _=>True) rfl (fun _ hk=>hk) trivial (of_decide_eq_true (by first|(with_reducible assumption)|assumption)) (Nat.le_trans (Nat.mul_le_mul_right _ (of_decide_eq_true (by first|(with_reducible assumption)|assumption):(l0.length:Int).toNat ≤ 35184372088832)) (by omega)) (Below.refl _ _) (Nat.le_refl _) ?_;intro vD w4 ND hb fF yo;clear fF yo;(first|rw [← Yj.out] at ND|(simp only [Int.reduceToNat] at ND;rw [← Yj.out] at ND));have Qb:=ja.mk (Kd.ri ND (Qa (by repeat (first|(with_reducible first|exact HB.out|apply qa|apply ia|apply ua)|exact HB.out))));have uc:=ja.mk (Na (by repeat (first|(with_reducible first|exact HB.out|apply qa|apply ia|apply ua)|exact HB.out)) hb);clear HB;have vq:=Qb;have HB:=uc;clear Qb uc hb ND))
   go_loopg [4] k (fun kq v4 w'=>∃ (uf:List Int) (Od:Int),v4 = .int .i64 Od∧ja (Rd.l0 kq l0 uf Od=some r)∧ja (kq ≤ k)∧ja (Kd.R (Kd.int .i64) 3 w' w.heap.size (fun _=>True) vD uf)∧ja (Below w.heap.size w w'))
   case atStart=>exact ⟨(ef),(0),(by first|rfl|(simp;done)|(simp [*];done)),H',⟨Nat.le_refl _⟩,⟨by (with_reducible repeat (first|apply Kd.Sd|apply Kd.ee|apply Kd.Ie));exact vq.out⟩,⟨by repeat (first|(with_reducible first|exact HB.out|apply qa|apply ia|apply ua)|exact HB.out)⟩⟩
   case round =>
    clear H'
    try clear c2
    try clear nA
    try clear XF
    try clear p2
    try clear c3
    try clear Jh
    try clear Zp
    (try clear HA)
    (try clear Ig)
    (try clear Ai)
    (try clear HB)
    obtain ⟨uf,Od,rfl,HA,Ig,Ai,HB⟩:=hrel
    cases gk with
    | zero=>exact absurd HA.out (by simp [Rd.l0])
    | succ k1 =>
     have H:=HA.out
     clear HA
     simp only [Rd.l0] at H
     by_cases c6:Od < (l0.length:Int)
     ·rw [if_pos c6] at H
      have El:decide (Od < (l0.length:Int))=true:=decide_eq_true c6
      clear c6
      by_cases c7:0 ≤ Od
      ·rw [if_pos c7] at H
       have Uo:decide (0 ≤ Od)=true:=decide_eq_true c7
       clear c7
       by_cases c8:Od < (uf.length:Int)
       ·rw [if_pos c8] at H
        have Yl:decide (Od < (uf.length:Int))=true:=decide_eq_true c8
        clear c8
        obtain ⟨Qf,hy105⟩:∃ y_:List Int,y_=(uf.set (Od:Int).toNat (rd l0 Od)):=⟨_,rfl⟩
        replace H:(Rd.l0 k1 l0 Qf (wrap64 (Od + 1)))=some r:=by first|(rw [hy105];with_reducible exact H)|(have Vh:=(Option.bind_some _ _).symm.trans H;rw [hy105];with_reducible exact Vh)|(have Vh:=(Option.bind_some _ _).symm.trans H;with_reducible exact Vh)|with_reducible exact H|(rw [hy105];exact H)|exact H
        have vM:=ja.mk hy105
        clear hy105
        have H':=ja.mk H
        clear H
        have Gh:0 ≤ (Od:Int):=of_decide_eq_true (by first|(with_reducible assumption)|assumption)
        have Fh:Od < (l0.length:Int):=of_decide_eq_true (by first|(with_reducible assumption)|assumption)
        obtain ⟨Rj,rm,ue⟩:=Kd.bq Bh.out Od Gh Fh
        cases rm
        replace ue:=(HB.out.cell (World.block_lt_of_cell? w _ ue)).trans ue
        replace Gh:=eq_true Gh
        replace Fh:=eq_true Fh
        have p9:0 ≤ (Od:Int):=of_decide_eq_true (by first|(with_reducible assumption)|assumption)
        have q9:(Od:Int) < ((uf.length:Int):Int):=of_decide_eq_true (by first|(with_reducible assumption)|assumption)
        obtain ⟨go9,ZL,nV,gb9,gl9,cl9,tV⟩:=Kd.Mw Ai.out (by omega)
        (first|cases nV|(injection nV with Lk en_ ec_;(first|subst Lk|(injection Lk with Lk;subst Lk));subst ec_;clear en_))
        have GB9:=ja.mk gb9
        have GG9:=ja.mk tV
        clear gb9 gl9 tV
        obtain ⟨OV,qY⟩:=Kd.jJ 0 Ai.out (Od:Int) p9 q9
        replace p9:=eq_true p9
        replace q9:=eq_true q9
        have oG:=Kd.qM Ai.out (Od:Int) (rd l0 Od)
        go_wp2_with (first|((with_reducible refine Vg (t:=3) (p:=20) rfl ?_);refine Gg (t:=3) (p:=20) (v:=?vo_w11) (w1:=(wr.setCell ⟨go9,(Od:Int).toNat,none⟩ (.int .i64 (rd l0 Od)))) ?hg ?ho ?hn ?hr ?_;(case ho=>rfl);(case hg=>rfl);(case hn=>rfl);(case hr=>first|(go_simp;done)|(go_simp;rfl));intro Ei hw;have hg:wr.grownBy Ei (some go9):=(by rw [hw];exact oG.2);have bp:Kd.R (Kd.int .i64) 3 Ei w.heap.size (fun _=>True) (.slice (some ⟨go9,0,none⟩) uf.length ZL) Qf:=(by rw [hw,vM.out];exact oG.1);clear oG;have Qb:=ja.mk (bp);have uc:=ja.mk ((by rw [hw];exact Aa (HB.out) GB9.out:Below w.heap.size w Ei));clear Ai HB;have Ai:=Qb;have HB:=uc;clear Qb uc hg hw bp))
        go_roundg k1
        case measure=>have:=Ig.out;omega
        case rel=>exact ⟨(Qf),(wrap64 (Od + 1)),(by first|rfl|(simp;done)|(simp [*];done)),H',⟨by have:=Ig.out;omega⟩,⟨by (with_reducible repeat (first|apply Kd.Sd|apply Kd.ee|apply Kd.Ie));exact Ai.out⟩,⟨by repeat (first|(with_reducible first|exact HB.out|apply qa|apply ia|apply ua)|exact HB.out)⟩⟩
       ·rw [if_neg c8] at H
        exact absurd H (by simp)
      ·rw [if_neg c7] at H
       exact absurd H (by simp)
     ·rw [if_neg c6] at H
      have El:decide (Od < (l0.length:Int))=false:=decide_eq_false c6
      clear c6
      obtain rfl:=Option.some.inj H
      go_wp2
      go_ret
      exact ⟨_,by first|rfl|(simp [La,Ka] <;> rfl)|(simp [*,La,Ka] <;> rfl),by (with_reducible repeat (first|apply Kd.Sd|apply Kd.ee|apply Kd.Ie));exact Ai.out,by repeat (first|(with_reducible first|exact HB.out|apply qa|apply ia|apply ua)|exact HB.out)⟩
  ·rw [if_neg c3] at H
   exact absurd H (by simp)
 ·rw [if_neg c2] at H
  exact absurd H (by simp)
def Hl.f (Yc:Int) (Pa:Int) (Oa:Int) (Ma:Int) (Vc:Int) (ke:Int) (Le:ByteArray):Option (Int × Int × Int × Int × Int × Int × ByteArray):=some (Yc,Pa,Oa,Ma,Vc,ke,Le)
theorem Hl.calls (Yc:Int) (Pa:Int) (Oa:Int) (Ma:Int) (Vc:Int) (ke:Int) (Le:ByteArray) (r1:Int) (r2:Int) (r3:Int) (r4:Int) (r5:Int) (r6:Int) (r7:ByteArray) (w:World) (h:Hl.f Yc Pa Oa Ma Vc ke Le=some (r1,r2,r3,r4,r5,r6,r7)) :
  Calls Try.prog 129 #[.agg #[.int .i64 Yc,.int .i64 Pa,.int .i64 Oa,.int .i64 Ma,.int .i64 Vc,.int .i64 ke,.string Le]] w fun e w'=>e = .returned (.agg #[.int .i64 r1,.int .i64 r2,.int .i64 r3,.int .i64 r4,.int .i64 r5,.int .i64 r6,.string r7])∧Below w.heap.size w w':=by
 have dL:=Try.underlying161
 have MD:=Try.underlying70
 have HB:=ja.mk (Below.refl w.heap.size w)
 have H:(some (Yc,Pa,Oa,Ma,Vc,ke,Le))=some (r1,r2,r3,r4,r5,r6,r7):=h
 clear h
 simp only [Option.some.injEq,Prod.mk.injEq] at H
 obtain ⟨rfl,rfl,rfl,rfl,rfl,rfl,rfl⟩:=H
 go_enter Try.func129,Try.ntmps129
 go_wp2_with (first|((with_reducible refine Pb (N:=1) rfl ?_);refine Kb ?hg (N:=1) ?hd (cs:=#[.int .i64 Yc,.int .i64 Pa,.int .i64 Oa,.int .i64 Ma,.int .i64 Vc,.int .i64 ke,.string Le]) (t:=161) ?hr ?_;(case hd=>rfl);(case hg=>rfl);(case hr=>first|(go_simp;done)|(go_simp;rfl));intro Da hg w2 Yb hb;have Qb:=ja.mk (Na (by repeat (first|(with_reducible first|exact HB.out|apply qa|apply ia|apply ua)|exact HB.out)) hb);have uc:=ja.mk (Yb);have Qc:=ja.mk ((by rw [hg];exact (Qa (by repeat (first|(with_reducible first|exact HB.out|apply qa|apply ia|apply ua)|exact HB.out))):w.heap.size ≤ Da));have Td:=ja.mk ((by rw [hg];exact (Qa (by repeat (first|(with_reducible first|exact HB.out|apply qa|apply ia|apply ua)|exact HB.out))):w.heap.size ≤ Da));clear HB;have HB:=Qb;have za:=uc;have Vf:=Qc;have Wa:=Td;clear Qb uc Qc Td hb Yb hg)|((with_reducible refine Pb (N:=2) rfl ?_);refine Kb ?hg (N:=2) ?hd (cs:=#[.int .i64 0,.int .i64 0,.int .i64 0,.int .i64 0,.int .i64 0,.int .i64 0,.string (⟨#[]⟩:ByteArray)]) (t:=70) ?hr ?_;(case hd=>rfl);(case hg=>rfl);(case hr=>first|(go_simp;done)|(go_simp;rfl));intro Ja hg w3 Yb hb;have Qb:=ja.mk (Ya (g:=Da) (o:=.cells #[.int .i64 Yc,.int .i64 Pa,.int .i64 Oa,.int .i64 Ma,.int .i64 Vc,.int .i64 ke,.string Le] 161 (0,0)) (by (with_reducible repeat (first|refine Ga ?_ _|refine Ia ?_|refine Fa ?_ _));exact za.out) hb);have uc:=ja.mk (Na (by repeat (first|(with_reducible first|exact HB.out|apply qa|apply ia|apply ua|refine Aa ?_ Wa.out)|exact HB.out)) hb);have Qc:=ja.mk (Yb);have Td:=ja.mk ((by rw [hg];exact (Qa (by repeat (first|(with_reducible first|exact HB.out|apply qa|apply ia|apply ua|refine Aa ?_ Wa.out)|exact HB.out))):w.heap.size ≤ Ja));have dh:=ja.mk ((by rw [hg];exact (Qa (by repeat (first|(with_reducible first|exact HB.out|apply qa|apply ia|apply ua|refine Aa ?_ Wa.out)|exact HB.out))):w.heap.size ≤ Ja));have Eh:=ja.mk ((by rw [hg];exact Nat.ne_of_lt (Pc (g:=Da) (o:=.cells #[.int .i64 Yc,.int .i64 Pa,.int .i64 Oa,.int .i64 Ma,.int .i64 Vc,.int .i64 ke,.string Le] 161 (0,0)) (by (with_reducible repeat (first|refine Ga ?_ _|refine Ia ?_|refine Fa ?_ _));exact za.out)):Da ≠ Ja));have Kh:=ja.mk ((by rw [hg];exact Nat.ne_of_gt (Pc (g:=Da) (o:=.cells #[.int .i64 Yc,.int .i64 Pa,.int .i64 Oa,.int .i64 Ma,.int .i64 Vc,.int .i64 ke,.string Le] 161 (0,0)) (by (with_reducible repeat (first|refine Ga ?_ _|refine Ia ?_|refine Fa ?_ _));exact za.out)):Ja ≠ Da));clear za HB;have za:=Qb;have HB:=uc;have Ba:=Qc;have Ci:=Td;have Dc:=dh;have qb:=Eh;have mb:=Kh;clear Qb uc Qc Td dh Eh Kh hb Yb hg)|((with_reducible refine Pb (N:=3) rfl ?_);refine Kb ?hg (N:=3) ?hd (cs:=#[.int .i64 0,.int .i64 0,.int .i64 0,.int .i64 0,.int .i64 0,.int .i64 0,.string (⟨#[]⟩:ByteArray)]) (t:=70) ?hr ?_;(case hd=>rfl);(case hg=>rfl);(case hr=>first|(go_simp;done)|(go_simp;rfl));intro we hg w4 Yb hb;have Qb:=ja.mk (Ya (g:=Da) (o:=.cells #[.int .i64 Yc,.int .i64 Pa,.int .i64 Oa,.int .i64 Ma,.int .i64 Vc,.int .i64 ke,.string Le] 161 (0,0)) (by (with_reducible repeat (first|refine Ga ?_ _|refine Ia ?_|refine Fa ?_ _));exact za.out) hb);have uc:=ja.mk (Ya (g:=Ja) (o:=.cells #[.int .i64 0,.int .i64 0,.int .i64 0,.int .i64 0,.int .i64 0,.int .i64 0,.string (⟨#[]⟩:ByteArray)] 70 (0,0)) (by (with_reducible repeat (first|refine Ga ?_ _|refine Ia ?_|refine Fa ?_ _));exact Ba.out) hb);have Qc:=ja.mk (Na (by repeat (first|(with_reducible first|exact HB.out|apply qa|apply ia|apply ua|refine Aa ?_ Wa.out|refine Aa ?_ Dc.out)|exact HB.out)) hb);have Td:=ja.mk (Yb);have dh:=ja.mk ((by rw [hg];exact (Qa (by repeat (first|(with_reducible first|exact HB.out|apply qa|apply ia|apply ua|refine Aa ?_ Wa.out|refine Aa ?_ Dc.out)|exact HB.out))):w.heap.size ≤ we));have Eh:=ja.mk ((by rw [hg];exact (Qa (by repeat (first|(with_reducible first|exact HB.out|apply qa|apply ia|apply ua|refine Aa ?_ Wa.out|refine Aa ?_ Dc.out)|exact HB.out))):w.heap.size ≤ we));have Kh:=ja.mk ((by rw [hg];exact Nat.ne_of_lt (Pc (g:=Da) (o:=.cells #[.int .i64 Yc,.int .i64 Pa,.int .i64 Oa,.int .i64 Ma,.int .i64 Vc,.int .i64 ke,.string Le] 161 (0,0)) (by (with_reducible repeat (first|refine Ga ?_ _|refine Ia ?_|refine Fa ?_ _));exact za.out)):Da ≠ we));have PK:=ja.mk ((by rw [hg];exact Nat.ne_of_gt (Pc (g:=Da) (o:=.cells #[.int .i64 Yc,.int .i64 Pa,.int .i64 Oa,.int .i64 Ma,.int .i64 Vc,.int .i64 ke,.string Le] 161 (0,0)) (by (with_reducible repeat (first|refine Ga ?_ _|refine Ia ?_|refine Fa ?_ _));exact za.out)):we ≠ Da));have OK:=ja.mk ((by rw [hg];exact Nat.ne_of_lt (Pc (g:=Ja) (o:=.cells #[.int .i64 0,.int .i64 0,.int .i64 0,.int .i64 0,.int .i64 0,.int .i64 0,.string (⟨#[]⟩:ByteArray)] 70 (0,0)) (by (with_reducible repeat (first|refine Ga ?_ _|refine Ia ?_|refine Fa ?_ _));exact Ba.out)):Ja ≠ we));have NK:=ja.mk ((by rw [hg];exact Nat.ne_of_gt (Pc (g:=Ja) (o:=.cells #[.int .i64 0,.int .i64 0,.int .i64 0,.int .i64 0,.int .i64 0,.int .i64 0,.string (⟨#[]⟩:ByteArray)] 70 (0,0)) (by (with_reducible repeat (first|refine Ga ?_ _|refine Ia ?_|refine Fa ?_ _));exact Ba.out)):we ≠ Ja));clear za Ba HB;have za:=Qb;have Ba:=uc;have HB:=Qc;have Ld:=Td;have LM:=dh;have Mi:=Eh;have Fg:=Kh;have Ah:=PK;have Ke:=OK;have zh:=NK;clear Qb uc Qc Td dh Eh Kh PK OK NK hb Yb hg;have cak:=qb.out;have aak:=mb.out;have sae:=Fg.out;have fae:=Ah.out;have tr:w4.cell? ⟨Da,0,none⟩=some (.int .i64 Yc):=(ga za.out 0).trans rfl;have sr:w4.cell? ⟨Da,1,none⟩=some (.int .i64 Pa):=(ga za.out 1).trans rfl;have nr:w4.cell? ⟨Da,2,none⟩=some (.int .i64 Oa):=(ga za.out 2).trans rfl;have kr:w4.cell? ⟨Da,3,none⟩=some (.int .i64 Ma):=(ga za.out 3).trans rfl;have jr:w4.cell? ⟨Da,4,none⟩=some (.int .i64 Vc):=(ga za.out 4).trans rfl;have EL:w4.cell? ⟨Da,5,none⟩=some (.int .i64 ke):=(ga za.out 5).trans rfl;have DL:w4.cell? ⟨Da,6,none⟩=some (.string Le):=(ga za.out 6).trans rfl;have Kq:=aa za.out 0;have Jq:=aa za.out 1;have Iq:=aa za.out 2;have Hq:=aa za.out 3;have Gq:=aa za.out 4;have rL:=aa za.out 5;have qL:=aa za.out 6;have qae:=zh.out;have dae:=Ke.out;have Ko:w4.cell? ⟨we,0,none⟩=some (.int .i64 0):=(ga Ld.out 0).trans rfl;have Jo:w4.cell? ⟨we,1,none⟩=some (.int .i64 0):=(ga Ld.out 1).trans rfl;have Io:w4.cell? ⟨we,2,none⟩=some (.int .i64 0):=(ga Ld.out 2).trans rfl;have Ho:w4.cell? ⟨we,3,none⟩=some (.int .i64 0):=(ga Ld.out 3).trans rfl;have Fo:w4.cell? ⟨we,4,none⟩=some (.int .i64 0):=(ga Ld.out 4).trans rfl;have DT:w4.cell? ⟨we,5,none⟩=some (.int .i64 0):=(ga Ld.out 5).trans rfl;have CT:w4.cell? ⟨we,6,none⟩=some (.string (⟨#[]⟩:ByteArray)):=(ga Ld.out 6).trans rfl;have Eo:=aa Ld.out 0;have Co:=aa Ld.out 1;have Bo:=aa Ld.out 2;have Ao:=aa Ld.out 3;have zo:=aa Ld.out 4;have mT:=aa Ld.out 5;have lT:=aa Ld.out 6;have Ak:w4.cell? ⟨Ja,0,none⟩=some (.int .i64 0):=(ga Ba.out 0).trans rfl;have zk:w4.cell? ⟨Ja,1,none⟩=some (.int .i64 0):=(ga Ba.out 1).trans rfl;have xk:w4.cell? ⟨Ja,2,none⟩=some (.int .i64 0):=(ga Ba.out 2).trans rfl;have wk:w4.cell? ⟨Ja,3,none⟩=some (.int .i64 0):=(ga Ba.out 3).trans rfl;have jl:w4.cell? ⟨Ja,4,none⟩=some (.int .i64 0):=(ga Ba.out 4).trans rfl;have TC:w4.cell? ⟨Ja,5,none⟩=some (.int .i64 0):=(ga Ba.out 5).trans rfl;have SC:w4.cell? ⟨Ja,6,none⟩=some (.string (⟨#[]⟩:ByteArray)):=(ga Ba.out 6).trans rfl;have vk:=aa Ba.out 0;have uk:=aa Ba.out 1;have qk:=aa Ba.out 2;have nk:=aa Ba.out 3;have Wk:=aa Ba.out 4;have eC:=aa Ba.out 5;have cC:=aa Ba.out 6))
 refine bodyPost_ret (results_cell_row rfl _ _ Ja 70 #[.int .i64 Yc,.int .i64 Pa,.int .i64 Oa,.int .i64 Ma,.int .i64 Vc,.int .i64 ke,.string Le] (0,0) _ rfl (by (with_reducible repeat (first|refine Ga ?_ _|refine Ia ?_|refine Fa ?_ _));refine zb (cs:=#[.int .i64 Yc,.int .i64 Pa,.int .i64 Oa,.int .i64 Ma,.int .i64 Vc,.int .i64 ke,.string (⟨#[]⟩:ByteArray)]) ?_ 6 _ rfl;(with_reducible repeat (first|refine Ga ?_ _|refine Ia ?_|refine Fa ?_ _));refine zb (cs:=#[.int .i64 Yc,.int .i64 Pa,.int .i64 Oa,.int .i64 Ma,.int .i64 Vc,.int .i64 0,.string (⟨#[]⟩:ByteArray)]) ?_ 5 _ rfl;(with_reducible repeat (first|refine Ga ?_ _|refine Ia ?_|refine Fa ?_ _));refine zb (cs:=#[.int .i64 Yc,.int .i64 Pa,.int .i64 Oa,.int .i64 Ma,.int .i64 0,.int .i64 0,.string (⟨#[]⟩:ByteArray)]) ?_ 4 _ rfl;(with_reducible repeat (first|refine Ga ?_ _|refine Ia ?_|refine Fa ?_ _));refine zb (cs:=#[.int .i64 Yc,.int .i64 Pa,.int .i64 Oa,.int .i64 0,.int .i64 0,.int .i64 0,.string (⟨#[]⟩:ByteArray)]) ?_ 3 _ rfl;(with_reducible repeat (first|refine Ga ?_ _|refine Ia ?_|refine Fa ?_ _));refine zb (cs:=#[.int .i64 Yc,.int .i64 Pa,.int .i64 0,.int .i64 0,.int .i64 0,.int .i64 0,.string (⟨#[]⟩:ByteArray)]) ?_ 2 _ rfl;(with_reducible repeat (first|refine Ga ?_ _|refine Ia ?_|refine Fa ?_ _));refine zb (cs:=#[.int .i64 Yc,.int .i64 0,.int .i64 0,.int .i64 0,.int .i64 0,.int .i64 0,.string (⟨#[]⟩:ByteArray)]) ?_ 1 _ rfl;(with_reducible repeat (first|refine Ga ?_ _|refine Ia ?_|refine Fa ?_ _));refine zb (cs:=#[.int .i64 0,.int .i64 0,.int .i64 0,.int .i64 0,.int .i64 0,.int .i64 0,.string (⟨#[]⟩:ByteArray)]) ?_ 0 _ rfl;(with_reducible repeat (first|refine Ga ?_ _|refine Ia ?_|refine Fa ?_ _));refine Tc ?_ Ke.out _;(with_reducible repeat (first|refine Ga ?_ _|refine Ia ?_|refine Fa ?_ _));refine Tc ?_ Ke.out _;(with_reducible repeat (first|refine Ga ?_ _|refine Ia ?_|refine Fa ?_ _));refine Tc ?_ Ke.out _;(with_reducible repeat (first|refine Ga ?_ _|refine Ia ?_|refine Fa ?_ _));refine Tc ?_ Ke.out _;(with_reducible repeat (first|refine Ga ?_ _|refine Ia ?_|refine Fa ?_ _));refine Tc ?_ Ke.out _;(with_reducible repeat (first|refine Ga ?_ _|refine Ia ?_|refine Fa ?_ _));refine Tc ?_ Ke.out _;(with_reducible repeat (first|refine Ga ?_ _|refine Ia ?_|refine Fa ?_ _));refine Tc ?_ Ke.out _;(with_reducible repeat (first|refine Ga ?_ _|refine Ia ?_|refine Fa ?_ _));exact Ba.out) Try.underlying70 rfl (by kernel_rfl)) rfl ?_
 exact ⟨by first|rfl|(simp [La,Ka] <;> rfl)|(simp [*,La,Ka] <;> rfl),by repeat (first|(with_reducible first|exact HB.out|apply qa|apply ia|apply ua|refine Aa ?_ Wa.out|refine Aa ?_ Dc.out|refine Aa ?_ Mi.out)|exact HB.out)⟩
def Wc.l0:Nat→List (Km)→List (yf)→Int→Option ((List (yf)))
 | 0,_,_,_=>none
 | k + 1,x0,x3,x4=>if x4 < (x0.length:Int) then (if 0 ≤ x4 then ((Hl.f ((yd x0 x4).f0) ((yd x0 x4).f1) ((yd x0 x4).f2) ((yd x0 x4).f3) ((yd x0 x4).f4) ((yd x0 x4).f5) ((yd x0 x4).f6)).bind fun uq=>(if x4 < (x3.length:Int) then (Wc.l0 k x0 (x3.set (x4:Int).toNat (⟨uq.1,uq.2.1,uq.2.2.1,uq.2.2.2.1,uq.2.2.2.2.1,uq.2.2.2.2.2.1,uq.2.2.2.2.2.2⟩:yf)) (wrap64 (x4 + 1))) else (none))) else (none)) else (some x3)
def Wc.f (k:Nat) (l0:List (Km)):Option ((List (yf))):=if 0 ≤ (l0.length:Int) then (if ((l0.length:Int):Int).toNat ≤ 4398046511104 then (Wc.l0 k l0 (List.replicate ((l0.length:Int):Int).toNat Ws) 0) else (none)) else (none)
theorem Wc.Qd:∀ k,(∀ y0 y1 y2,Nb (Wc.l0 k y0 y1 y2) (Wc.l0 (k + 1) y0 y1 y2))
 | 0=>fun _ _ _ r h=>by simp [Wc.l0] at h
 | k + 1=>by
  have Ff:=Wc.Qd k
  ·intro y0 y1 y2
   unfold Wc.l0
   repeat' first
   | (with_reducible exact Ff _ _ _)
   | (with_reducible exact Nb.refl _)
   | (with_reducible exact Nb.none _)
   | (with_reducible refine Nb.ite ?_ ?_)
   | (with_reducible refine Nb.bind ?_ (fun _=>?_))
   | exact Ff _ _ _
   | exact Nb.none _
   | refine Nb.ite ?_ ?_
   | refine Nb.bind ?_ (fun _=>?_)
theorem Wc.mono:∀ a0 k,Nb (Wc.f k a0) (Wc.f (k + 1) a0):=by
 intro a0 k
 have Ff:=Wc.Qd k
 unfold Wc.f
 repeat' first
   | (with_reducible exact Ff _ _ _)
   | (with_reducible exact Nb.refl _)
   | (with_reducible exact Nb.none _)
   | (with_reducible refine Nb.ite ?_ ?_)
   | (with_reducible refine Nb.bind ?_ (fun _=>?_))
   | exact Ff _ _ _
   | exact Nb.none _
   | refine Nb.ite ?_ ?_
   | refine Nb.bind ?_ (fun _=>?_)
theorem Wc.calls (k:Nat) (A0:Option Addr) (c0:Nat) (l0:List (Km)) (r:List (yf)) (w:World) (hr0:Kd.C ez w A0 l0.length l0) (hc0:l0.length ≤ c0) (h:Wc.f k l0=some r) :
  Calls Try.prog 112 #[.slice A0 l0.length c0] w fun e w'=>∃ v0_:Value,e = .returned (v0_)∧Kd.R Uj 70 w' w.heap.size (fun _=>True) v0_ r∧Below w.heap.size w w':=by
 have dL:=Try.underlying161
 have MD:=Try.underlying70
 have Bh:=ja.mk hr0
 have Rw:=ja.mk hc0
 clear hr0 hc0
 have HB:=ja.mk (Below.refl w.heap.size w)
 have H:(if 0 ≤ (l0.length:Int) then (if ((l0.length:Int):Int).toNat ≤ 4398046511104 then (Wc.l0 k l0 (List.replicate ((l0.length:Int):Int).toNat Ws) 0) else (none)) else (none))=some r:=h
 clear h
 by_cases c2:0 ≤ (l0.length:Int)
 ·rw [if_pos c2] at H
  have nA:=eq_true c2
  have XF:decide (0 ≤ (l0.length:Int))=true:=decide_eq_true c2
  clear c2
  by_cases c3:((l0.length:Int):Int).toNat ≤ 4398046511104
  ·rw [if_pos c3] at H
   have Jh:=eq_true c3
   have Zp:decide (((l0.length:Int):Int).toNat ≤ 4398046511104)=true:=decide_eq_true c3
   clear c3
   obtain ⟨ef,hy101⟩:∃ y_:List (yf),y_=(List.replicate ((l0.length:Int):Int).toNat Ws):=⟨_,rfl⟩
   replace H:(Wc.l0 k l0 ef 0)=some r:=by first|(rw [hy101];with_reducible exact H)|(have Vh:=(Option.bind_some _ _).symm.trans H;rw [hy101];with_reducible exact Vh)|(have Vh:=(Option.bind_some _ _).symm.trans H;with_reducible exact Vh)|with_reducible exact H|(rw [hy101];exact H)|exact H
   have Yj:=ja.mk hy101
   clear hy101
   have H':=ja.mk H
   clear H
   go_enter Try.func112,Try.ntmps112
   go_wp2_with (first|((with_reducible refine Pb (N:=7) rfl ?_);refine Kd.fG Uj _ 70 rfl (N:=7) rfl 66 _ _ rfl (l0.length:Int) rfl rfl Try.underlying66 (.agg #[(.int .i64 0),(.int .i64 0),(.int .i64 0),(.int .i64 0),(.int .i64 0),(.int .i64 0),(.string ⟨#[]⟩)]) 64 QS rfl (by decide) (by omega) Ws (ok:=fun _=>True) (Xo:=fun _=>True) (Sm _ _ _ Ws ) (fun _ hk=>hk) trivial (of_decide_eq_true (by first|(with_reducible assumption)|assumption)) (Nat.le_trans (Nat.mul_le_mul_right _ (of_decide_eq_true (by first|(with_reducible assumption)|assumption):(l0.length:Int).toNat ≤ 4398046511104)) (by omega)) (Below.refl _ _) (Nat.le_refl _) ?_;intro vD w4 ND hb fF yo;clear fF yo;(first|rw [← Yj.out] at ND|(simp only [Int.reduceToNat] at ND;rw [← Yj.out] at ND));have Qb:=ja.mk (Kd.ri ND (Qa (by repeat (first|(with_reducible first|exact HB.out|apply qa|apply ia|apply ua)|exact HB.out))));have uc:=ja.mk (Na (by repeat (first|(with_reducible first|exact HB.out|apply qa|apply ia|apply ua)|exact HB.out)) hb);clear HB;have vq:=Qb;have HB:=uc;clear Qb uc hb ND))
   go_loopg [4] k (fun kq v4 w'=>∃ (uf:List (yf)) (Od:Int),v4 = .int .i64 Od∧ja (Wc.l0 kq l0 uf Od=some r)∧ja (kq ≤ k)∧ja (Kd.R Uj 70 w' w.heap.size (fun _=>True) vD uf)∧ja (Below w.heap.size w w'))
   case atStart=>exact ⟨(ef),(0),(by first|rfl|(simp;done)|(simp [*];done)),H',⟨Nat.le_refl _⟩,⟨by (with_reducible repeat (first|apply Kd.Sd|apply Kd.ee|apply Kd.Ie));exact vq.out⟩,⟨by repeat (first|(with_reducible first|exact HB.out|apply qa|apply ia|apply ua)|exact HB.out)⟩⟩
   case round =>
    clear H'
    try clear c1
    try clear c2
    try clear nA
    try clear XF
    try clear p2
    try clear c3
    try clear Jh
    try clear Zp
    (try clear HA)
    (try clear Ig)
    (try clear Ai)
    (try clear HB)
    obtain ⟨uf,Od,rfl,HA,Ig,Ai,HB⟩:=hrel
    cases gk with
    | zero=>exact absurd HA.out (by simp [Wc.l0])
    | succ k1 =>
     have H:=HA.out
     clear HA
     simp only [Wc.l0] at H
     by_cases c6:Od < (l0.length:Int)
     ·rw [if_pos c6] at H
      have El:decide (Od < (l0.length:Int))=true:=decide_eq_true c6
      clear c6
      by_cases c7:0 ≤ Od
      ·rw [if_pos c7] at H
       have Uo:decide (0 ≤ Od)=true:=decide_eq_true c7
       clear c7
       replace H:=Option.bind_eq_some_iff.mp H
       obtain ⟨⟨t105,t106,t107,t108,t109,t110,t111⟩,NM,H⟩:=H
       replace H:(if Od < (uf.length:Int) then (Wc.l0 k1 l0 (uf.set (Od:Int).toNat (⟨t105,t106,t107,t108,t109,t110,t111⟩:yf)) (wrap64 (Od + 1))) else (none))=some r:=H
       have A8:=ja.mk NM
       clear NM
       by_cases c9:Od < (uf.length:Int)
       ·rw [if_pos c9] at H
        have Az:decide (Od < (uf.length:Int))=true:=decide_eq_true c9
        clear c9
        obtain ⟨y112,hy112⟩:∃ y_:List (yf),y_=(uf.set (Od:Int).toNat (⟨t105,t106,t107,t108,t109,t110,t111⟩:yf)):=⟨_,rfl⟩
        replace H:(Wc.l0 k1 l0 y112 (wrap64 (Od + 1)))=some r:=by first|(rw [hy112];with_reducible exact H)|(have Vh:=(Option.bind_some _ _).symm.trans H;rw [hy112];with_reducible exact Vh)|(have Vh:=(Option.bind_some _ _).symm.trans H;with_reducible exact Vh)|with_reducible exact H|(rw [hy112];exact H)|exact H
        have uM:=ja.mk hy112
        clear hy112
        have H':=ja.mk H
        clear H
        have Gh:0 ≤ (Od:Int):=of_decide_eq_true (by first|(with_reducible assumption)|assumption)
        have Fh:Od < (l0.length:Int):=of_decide_eq_true (by first|(with_reducible assumption)|assumption)
        obtain ⟨Rj,rm,ue,Te,Re,Qe,We,uh,th⟩:=bD Bh.out Od Gh Fh
        cases rm
        replace ue:=(HB.out.cell (World.block_lt_of_cell? w _ ue)).trans ue
        replace Te:=(HB.out.cell (World.block_lt_of_cell? w _ Te)).trans Te
        replace Re:=(HB.out.cell (World.block_lt_of_cell? w _ Re)).trans Re
        replace Qe:=(HB.out.cell (World.block_lt_of_cell? w _ Qe)).trans Qe
        replace We:=(HB.out.cell (World.block_lt_of_cell? w _ We)).trans We
        replace uh:=(HB.out.cell (World.block_lt_of_cell? w _ uh)).trans uh
        replace th:=(HB.out.cell (World.block_lt_of_cell? w _ th)).trans th
        replace Gh:=eq_true Gh
        replace Fh:=eq_true Fh
        go_wp2_with (first|((with_reducible refine xb (f:=129) rfl ?_);refine qd (some 20) rfl rfl Try.func129 (by kernel_rfl) rfl #[.agg #[.int .i64 ((yd l0 Od).f0),.int .i64 ((yd l0 Od).f1),.int .i64 ((yd l0 Od).f2),.int .i64 ((yd l0 Od).f3),.int .i64 ((yd l0 Od).f4),.int .i64 ((yd l0 Od).f5),.string ((yd l0 Od).f6)]] rfl (by (try simp only [List.map_toArray,List.map_cons,List.map_nil]);first|done|rfl|(simp only [List.length_drop,List.length_take];rfl)) ?_;(with_reducible refine (Hl.calls ((yd l0 Od).f0) ((yd l0 Od).f1) ((yd l0 Od).f2) ((yd l0 Od).f3) ((yd l0 Od).f4) ((yd l0 Od).f5) ((yd l0 Od).f6) t105 t106 t107 t108 t109 t110 t111 _ A8.out).mono ?_);rintro e Ei ⟨rfl,hb⟩;refine ⟨_,rfl,?_⟩;have Qb:=ja.mk (Kd.Ue (by (with_reducible repeat (first|apply Kd.Sd|apply Kd.ee|apply Kd.Ie));exact Ai.out) hb);have uc:=ja.mk (Na (by repeat (first|(with_reducible first|exact HB.out|apply qa|apply ia|apply ua)|exact HB.out)) hb);clear Ai HB;have Ai:=Qb;have HB:=uc;clear Qb uc;(try clear hb);(try clear hb2);(try clear hk);(try clear hi);have CG:0 ≤ (Od:Int):=of_decide_eq_true (by first|(with_reducible assumption)|assumption);have BG:(Od:Int) < ((uf.length:Int):Int):=of_decide_eq_true (by first|(with_reducible assumption)|assumption);obtain ⟨Di,Hw,UF,TL,TT,zaf,Qw⟩:=Kd.Mw Ai.out (by omega);(first|cases UF|(injection UF with Lk en_ ec_;(first|subst Lk|(injection Lk with Lk;subst Lk));subst ec_;clear en_));have Sw:=ja.mk TL;have Taf:=ja.mk Qw;clear TL TT Qw;obtain ⟨ZT,Yw,qz,Si,fj⟩:=Kd.Xg Ai.out Ws (Od:Int) CG BG;obtain rfl:=yh qz;have uB:Ei.cell? ⟨Di,(Od:Int).toNat * 7,none⟩=some (.int .i64 ((Ea uf Od).f0)):=Si 0 _ rfl;have cL:Ei.cell? ⟨Di,(Od:Int).toNat * 7 + 1,none⟩=some (.int .i64 ((Ea uf Od).f1)):=Si 1 _ rfl;have bL:Ei.cell? ⟨Di,(Od:Int).toNat * 7 + 2,none⟩=some (.int .i64 ((Ea uf Od).f2)):=Si 2 _ rfl;have ZK:Ei.cell? ⟨Di,(Od:Int).toNat * 7 + 3,none⟩=some (.int .i64 ((Ea uf Od).f3)):=Si 3 _ rfl;have YK:Ei.cell? ⟨Di,(Od:Int).toNat * 7 + 4,none⟩=some (.int .i64 ((Ea uf Od).f4)):=Si 4 _ rfl;have cT:Ei.cell? ⟨Di,(Od:Int).toNat * 7 + 5,none⟩=some (.int .i64 ((Ea uf Od).f5)):=Si 5 _ rfl;have bT:Ei.cell? ⟨Di,(Od:Int).toNat * 7 + 6,none⟩=some (.string ((Ea uf Od).f6)):=Si 6 _ rfl;have kC:Ei.frozen? ⟨Di,(Od:Int).toNat * 7,none⟩=false:=fj 0;have CL:Ei.frozen? ⟨Di,(Od:Int).toNat * 7 + 1,none⟩=false:=fj 1;have BL:Ei.frozen? ⟨Di,(Od:Int).toNat * 7 + 2,none⟩=false:=fj 2;have AL:Ei.frozen? ⟨Di,(Od:Int).toNat * 7 + 3,none⟩=false:=fj 3;have zL:Ei.frozen? ⟨Di,(Od:Int).toNat * 7 + 4,none⟩=false:=fj 4;have zT:Ei.frozen? ⟨Di,(Od:Int).toNat * 7 + 5,none⟩=false:=fj 5;have yT:Ei.frozen? ⟨Di,(Od:Int).toNat * 7 + 6,none⟩=false:=fj 6;clear Yw Si fj qz;replace CG:=eq_true CG;replace BG:=eq_true BG;have jG:=ja.mk (show Kd.R Uj 70 Ei w.heap.size (fun _=>True) (.slice (some ⟨Di,0,none⟩) uf.length Hw) uf from (by (with_reducible repeat (first|apply Kd.Sd|apply Kd.ee|apply Kd.Ie));exact Ai.out));obtain ⟨YT,Vv,pz,Ki,ej⟩:=Kd.Xg jG.out Ws (Od:Int) (of_decide_eq_true (by first|(with_reducible assumption)|assumption)) (by have h_:(Od:Int) < ((uf.length:Int):Int):=of_decide_eq_true (by first|(with_reducible assumption)|assumption);first|exact h_|(have e_:=(Kd.Fc Ai.out).1;omega)|simpa using h_);obtain rfl:=yh pz;have Nz:=Kd.cm jG.out (Od:Int) (of_decide_eq_true (by first|(with_reducible assumption)|assumption)) (by have h_:(Od:Int) < ((uf.length:Int):Int):=of_decide_eq_true (by first|(with_reducible assumption)|assumption);first|exact h_|(have e_:=(Kd.Fc Ai.out).1;omega)|simpa using h_) (seg:=[.int .i64 t105,.int .i64 t106,.int .i64 t107,.int .i64 t108,.int .i64 t109,.int .i64 t110,.string t111]) (j:=0) Vv Ki (show 7 ≤ 7 from by decide) (x':=(⟨t105,t106,t107,t108,t109,t110,t111⟩:yf)) (Sm _ _ _ (⟨t105,t106,t107,t108,t109,t110,t111⟩:yf) ) (fun _ hk=>hk);have dB:=Ki 0 _ rfl;(try simp only [show (Uj).sz=7 from rfl,Nat.mul_one,Nat.add_zero] at dB);have jC:=ej 0;(try simp only [show (Uj).sz=7 from rfl,Nat.mul_one,Nat.add_zero] at jC);have Cw:=Ki 1 _ rfl;(try simp only [show (Uj).sz=7 from rfl,Nat.mul_one,Nat.add_zero] at Cw);have Dw:=ej 1;(try simp only [show (Uj).sz=7 from rfl,Nat.mul_one,Nat.add_zero] at Dw);have cB:=Ki 2 _ rfl;(try simp only [show (Uj).sz=7 from rfl,Nat.mul_one,Nat.add_zero] at cB);have iC:=ej 2;(try simp only [show (Uj).sz=7 from rfl,Nat.mul_one,Nat.add_zero] at iC);have ZA:=Ki 3 _ rfl;(try simp only [show (Uj).sz=7 from rfl,Nat.mul_one,Nat.add_zero] at ZA);have gC:=ej 3;(try simp only [show (Uj).sz=7 from rfl,Nat.mul_one,Nat.add_zero] at gC);have YA:=Ki 4 _ rfl;(try simp only [show (Uj).sz=7 from rfl,Nat.mul_one,Nat.add_zero] at YA);have fC:=ej 4;(try simp only [show (Uj).sz=7 from rfl,Nat.mul_one,Nat.add_zero] at fC);have XK:=Ki 5 _ rfl;(try simp only [show (Uj).sz=7 from rfl,Nat.mul_one,Nat.add_zero] at XK);have yL:=ej 5;(try simp only [show (Uj).sz=7 from rfl,Nat.mul_one,Nat.add_zero] at yL);have WK:=Ki 6 _ rfl;(try simp only [show (Uj).sz=7 from rfl,Nat.mul_one,Nat.add_zero] at WK);have xL:=ej 6;(try simp only [show (Uj).sz=7 from rfl,Nat.mul_one,Nat.add_zero] at xL);clear Vv Ki ej pz)|((with_reducible refine Vg (t:=70) (p:=21) rfl ?_);refine Gg (t:=70) (p:=21) (v:=?vo_w13) (w1:=(((((((Ei.setCell ⟨Di,(Od:Int).toNat * 7,none⟩ (.int .i64 t105)).setCell ⟨Di,(Od:Int).toNat * 7 + 1,none⟩ (.int .i64 t106)).setCell ⟨Di,(Od:Int).toNat * 7 + 2,none⟩ (.int .i64 t107)).setCell ⟨Di,(Od:Int).toNat * 7 + 3,none⟩ (.int .i64 t108)).setCell ⟨Di,(Od:Int).toNat * 7 + 4,none⟩ (.int .i64 t109)).setCell ⟨Di,(Od:Int).toNat * 7 + 5,none⟩ (.int .i64 t110)).setCell ⟨Di,(Od:Int).toNat * 7 + 6,none⟩ (.string t111))) ?hg ?ho ?hn ?hr ?_;(case ho=>rfl);(case hg=>rfl);(case hn=>rfl);(case hr=>first|(go_simp;done)|(go_simp;rfl));intro mo hw;have hg:Ei.grownBy mo (some Di):=(by rw [hw];exact Nz.2);have bp:Kd.R Uj 70 mo w.heap.size (fun _=>True) (.slice (some ⟨Di,0,none⟩) uf.length Hw) y112:=(by rw [hw,uM.out];exact Nz.1);clear Nz;have Qb:=ja.mk (bp);have uc:=ja.mk ((by rw [hw];exact Aa (Aa (Aa (Aa (Aa (Aa (Aa (HB.out) Sw.out) Sw.out) Sw.out) Sw.out) Sw.out) Sw.out) Sw.out:Below w.heap.size w mo));clear Ai HB;have Ai:=Qb;have HB:=uc;clear Qb uc hg hw bp))
        go_roundg k1
        case measure=>have:=Ig.out;omega
        case rel=>exact ⟨(y112),(wrap64 (Od + 1)),(by first|rfl|(simp;done)|(simp [*];done)),H',⟨by have:=Ig.out;omega⟩,⟨by (with_reducible repeat (first|apply Kd.Sd|apply Kd.ee|apply Kd.Ie));exact Ai.out⟩,⟨by repeat (first|(with_reducible first|exact HB.out|apply qa|apply ia|apply ua)|exact HB.out)⟩⟩
       ·rw [if_neg c9] at H
        exact absurd H (by simp)
      ·rw [if_neg c7] at H
       exact absurd H (by simp)
     ·rw [if_neg c6] at H
      have El:decide (Od < (l0.length:Int))=false:=decide_eq_false c6
      clear c6
      obtain rfl:=Option.some.inj H
      go_wp2
      go_ret
      exact ⟨_,by first|rfl|(simp [La,Ka] <;> rfl)|(simp [*,La,Ka] <;> rfl),by (with_reducible repeat (first|apply Kd.Sd|apply Kd.ee|apply Kd.Ie));exact Ai.out,by repeat (first|(with_reducible first|exact HB.out|apply qa|apply ia|apply ua)|exact HB.out)⟩
  ·rw [if_neg c3] at H
   exact absurd H (by simp)
 ·rw [if_neg c2] at H
  exact absurd H (by simp)
def Kg.f (k:Nat) (Ta:List (Km)) (Pa:Int) (Oa:Int) (Ma:Int) (Vc:Int):Option ((List (yf)) × Int × Int × Int × Int):=(Wc.f k Ta).bind fun t104=>(some (t104,Pa,Oa,Ma,Vc))
theorem Kg.mono:∀ a0 a1 a2 a3 a4 k,Nb (Kg.f k a0 a1 a2 a3 a4) (Kg.f (k + 1) a0 a1 a2 a3 a4):=by
 intro a0 a1 a2 a3 a4 k
 unfold Kg.f
 repeat' first
   | (with_reducible exact Wc.mono _ _)
   | (with_reducible exact Nb.refl _)
   | (with_reducible exact Nb.none _)
   | (with_reducible refine Nb.ite ?_ ?_)
   | (with_reducible refine Nb.bind ?_ (fun _=>?_))
   | exact Wc.mono _ _
   | exact Nb.none _
   | refine Nb.ite ?_ ?_
   | refine Nb.bind ?_ (fun _=>?_)
theorem Kg.calls (k:Nat) (Eb:Option Addr) (Db:Nat) (Ta:List (Km)) (Pa:Int) (Oa:Int) (Ma:Int) (Vc:Int) (r1:List (yf)) (r2:Int) (r3:Int) (r4:Int) (r5:Int) (w:World) (Kf:Kd.C ez w Eb Ta.length Ta) (Gf:Ta.length ≤ Db) (h:Kg.f k Ta Pa Oa Ma Vc=some (r1,r2,r3,r4,r5)) :
  Calls Try.prog 88 #[.agg #[.slice Eb Ta.length Db,.int .i64 Pa,.int .i64 Oa,.int .i64 Ma,.int .i64 Vc]] w fun e w'=>∃ v0_:Value,e = .returned (.agg #[v0_,.int .i64 r2,.int .i64 r3,.int .i64 r4,.int .i64 r5])∧Kd.R Uj 70 w' w.heap.size (fun _=>True) v0_ r1∧Below w.heap.size w w':=by
 have eL:=Try.underlying118
 have XJ:=Try.underlying68
 have Uf:=ja.mk Kf
 have ig:=ja.mk Gf
 clear Kf Gf
 have HB:=ja.mk (Below.refl w.heap.size w)
 have H:((Wc.f k Ta).bind fun t104=>(some (t104,Pa,Oa,Ma,Vc)))=some (r1,r2,r3,r4,r5):=h
 clear h
 replace H:=Option.bind_eq_some_iff.mp H
 obtain ⟨t104,cN,H⟩:=H
 replace H:(some (t104,Pa,Oa,Ma,Vc))=some (r1,r2,r3,r4,r5):=H
 have A2:=ja.mk cN
 clear cN
 simp only [Option.some.injEq,Prod.mk.injEq] at H
 obtain ⟨rfl,rfl,rfl,rfl,rfl⟩:=H
 go_enter Try.func88,Try.ntmps88
 go_wp2_with (first|((with_reducible refine Pb (N:=1) rfl ?_);refine Kb ?hg (N:=1) ?hd (cs:=#[.slice Eb Ta.length Db,.int .i64 Pa,.int .i64 Oa,.int .i64 Ma,.int .i64 Vc]) (t:=118) ?hr ?_;(case hd=>rfl);(case hg=>rfl);(case hr=>first|(go_simp;done)|(go_simp;rfl));intro Da hg w3 Yb hb;have Qb:=ja.mk (Na (by repeat (first|(with_reducible first|exact HB.out|apply qa|apply ia|apply ua)|exact HB.out)) hb);have uc:=ja.mk (Yb);have Qc:=ja.mk ((by rw [hg];exact (Qa (by repeat (first|(with_reducible first|exact HB.out|apply qa|apply ia|apply ua)|exact HB.out))):w.heap.size ≤ Da));have Td:=ja.mk ((by rw [hg];exact (Qa (by repeat (first|(with_reducible first|exact HB.out|apply qa|apply ia|apply ua)|exact HB.out))):w.heap.size ≤ Da));clear HB;have HB:=Qb;have za:=uc;have Vf:=Qc;have Wa:=Td;clear Qb uc Qc Td hb Yb hg)|((with_reducible refine Pb (N:=2) rfl ?_);refine Kb ?hg (N:=2) ?hd (cs:=#[.slice none 0 0,.int .i64 0,.int .i64 0,.int .i64 0,.int .i64 0]) (t:=68) ?hr ?_;(case hd=>rfl);(case hg=>rfl);(case hr=>first|(go_simp;done)|(go_simp;rfl));intro Ja hg w4 Yb hb;have Qb:=ja.mk (Ya (g:=Da) (o:=.cells #[.slice Eb Ta.length Db,.int .i64 Pa,.int .i64 Oa,.int .i64 Ma,.int .i64 Vc] 118 (0,0)) (by (with_reducible repeat (first|refine Ga ?_ _|refine Ia ?_|refine Fa ?_ _));exact za.out) hb);have uc:=ja.mk (Na (by repeat (first|(with_reducible first|exact HB.out|apply qa|apply ia|apply ua|refine Aa ?_ Wa.out)|exact HB.out)) hb);have Qc:=ja.mk (Yb);have Td:=ja.mk ((by rw [hg];exact (Qa (by repeat (first|(with_reducible first|exact HB.out|apply qa|apply ia|apply ua|refine Aa ?_ Wa.out)|exact HB.out))):w.heap.size ≤ Ja));have dh:=ja.mk ((by rw [hg];exact (Qa (by repeat (first|(with_reducible first|exact HB.out|apply qa|apply ia|apply ua|refine Aa ?_ Wa.out)|exact HB.out))):w.heap.size ≤ Ja));have Eh:=ja.mk ((by rw [hg];exact Nat.ne_of_lt (Pc (g:=Da) (o:=.cells #[.slice Eb Ta.length Db,.int .i64 Pa,.int .i64 Oa,.int .i64 Ma,.int .i64 Vc] 118 (0,0)) (by (with_reducible repeat (first|refine Ga ?_ _|refine Ia ?_|refine Fa ?_ _));exact za.out)):Da ≠ Ja));have Kh:=ja.mk ((by rw [hg];exact Nat.ne_of_gt (Pc (g:=Da) (o:=.cells #[.slice Eb Ta.length Db,.int .i64 Pa,.int .i64 Oa,.int .i64 Ma,.int .i64 Vc] 118 (0,0)) (by (with_reducible repeat (first|refine Ga ?_ _|refine Ia ?_|refine Fa ?_ _));exact za.out)):Ja ≠ Da));clear za HB;have za:=Qb;have HB:=uc;have Ba:=Qc;have Ci:=Td;have Dc:=dh;have qb:=Eh;have mb:=Kh;clear Qb uc Qc Td dh Eh Kh hb Yb hg)|((with_reducible refine Pb (N:=3) rfl ?_);refine Kb ?hg (N:=3) ?hd (cs:=#[.slice none 0 0,.int .i64 0,.int .i64 0,.int .i64 0,.int .i64 0]) (t:=68) ?hr ?_;(case hd=>rfl);(case hg=>rfl);(case hr=>first|(go_simp;done)|(go_simp;rfl));intro we hg w5 Yb hb;have Qb:=ja.mk (Ya (g:=Da) (o:=.cells #[.slice Eb Ta.length Db,.int .i64 Pa,.int .i64 Oa,.int .i64 Ma,.int .i64 Vc] 118 (0,0)) (by (with_reducible repeat (first|refine Ga ?_ _|refine Ia ?_|refine Fa ?_ _));exact za.out) hb);have uc:=ja.mk (Ya (g:=Ja) (o:=.cells #[.slice none 0 0,.int .i64 0,.int .i64 0,.int .i64 0,.int .i64 0] 68 (0,0)) (by (with_reducible repeat (first|refine Ga ?_ _|refine Ia ?_|refine Fa ?_ _));exact Ba.out) hb);have Qc:=ja.mk (Na (by repeat (first|(with_reducible first|exact HB.out|apply qa|apply ia|apply ua|refine Aa ?_ Wa.out|refine Aa ?_ Dc.out)|exact HB.out)) hb);have Td:=ja.mk (Yb);have dh:=ja.mk ((by rw [hg];exact (Qa (by repeat (first|(with_reducible first|exact HB.out|apply qa|apply ia|apply ua|refine Aa ?_ Wa.out|refine Aa ?_ Dc.out)|exact HB.out))):w.heap.size ≤ we));have Eh:=ja.mk ((by rw [hg];exact (Qa (by repeat (first|(with_reducible first|exact HB.out|apply qa|apply ia|apply ua|refine Aa ?_ Wa.out|refine Aa ?_ Dc.out)|exact HB.out))):w.heap.size ≤ we));have Kh:=ja.mk ((by rw [hg];exact Nat.ne_of_lt (Pc (g:=Da) (o:=.cells #[.slice Eb Ta.length Db,.int .i64 Pa,.int .i64 Oa,.int .i64 Ma,.int .i64 Vc] 118 (0,0)) (by (with_reducible repeat (first|refine Ga ?_ _|refine Ia ?_|refine Fa ?_ _));exact za.out)):Da ≠ we));have PK:=ja.mk ((by rw [hg];exact Nat.ne_of_gt (Pc (g:=Da) (o:=.cells #[.slice Eb Ta.length Db,.int .i64 Pa,.int .i64 Oa,.int .i64 Ma,.int .i64 Vc] 118 (0,0)) (by (with_reducible repeat (first|refine Ga ?_ _|refine Ia ?_|refine Fa ?_ _));exact za.out)):we ≠ Da));have OK:=ja.mk ((by rw [hg];exact Nat.ne_of_lt (Pc (g:=Ja) (o:=.cells #[.slice none 0 0,.int .i64 0,.int .i64 0,.int .i64 0,.int .i64 0] 68 (0,0)) (by (with_reducible repeat (first|refine Ga ?_ _|refine Ia ?_|refine Fa ?_ _));exact Ba.out)):Ja ≠ we));have NK:=ja.mk ((by rw [hg];exact Nat.ne_of_gt (Pc (g:=Ja) (o:=.cells #[.slice none 0 0,.int .i64 0,.int .i64 0,.int .i64 0,.int .i64 0] 68 (0,0)) (by (with_reducible repeat (first|refine Ga ?_ _|refine Ia ?_|refine Fa ?_ _));exact Ba.out)):we ≠ Ja));clear za Ba HB;have za:=Qb;have Ba:=uc;have HB:=Qc;have Ld:=Td;have LM:=dh;have Mi:=Eh;have Fg:=Kh;have Ah:=PK;have Ke:=OK;have zh:=NK;clear Qb uc Qc Td dh Eh Kh PK OK NK hb Yb hg;have sae:=qb.out;have fae:=mb.out;have rae:=Fg.out;have eae:=Ah.out;have wF:w5.cell? ⟨Da,0,none⟩=some (.slice Eb Ta.length Db):=(ga za.out 0).trans rfl;have vF:w5.cell? ⟨Da,1,none⟩=some (.int .i64 Pa):=(ga za.out 1).trans rfl;have uF:w5.cell? ⟨Da,2,none⟩=some (.int .i64 Oa):=(ga za.out 2).trans rfl;have sF:w5.cell? ⟨Da,3,none⟩=some (.int .i64 Ma):=(ga za.out 3).trans rfl;have rF:w5.cell? ⟨Da,4,none⟩=some (.int .i64 Vc):=(ga za.out 4).trans rfl;have mF:=aa za.out 0;have lF:=aa za.out 1;have kF:=aa za.out 2;have jF:=aa za.out 3;have iF:=aa za.out 4)|((with_reducible refine xb (f:=112) rfl ?_);refine qd (some 6) rfl rfl Try.func112 (by kernel_rfl) rfl #[.slice Eb Ta.length Db] rfl (by (try simp only [List.map_toArray,List.map_cons,List.map_nil]);first|done|rfl|(simp only [List.length_drop,List.length_take];rfl)) ?_;(with_reducible refine (Wc.calls k _ _ Ta t104 _ ?side1 ?side2 A2.out).mono ?_);(case side1=>repeat (first|exact (Kd.Mb Uf.out HB.out)|(with_reducible refine Kd.Lc ?_ _)|(with_reducible refine Kd.Jc ?_ _)|(with_reducible refine Kd.Ed ?_)));(case side2=>exact ig.out);rintro e w9 ⟨sS,rfl,Am,hb⟩;refine ⟨_,rfl,?_⟩;have Qb:=ja.mk (Kd.ri Am (Qa (by repeat (first|(with_reducible first|exact HB.out|apply qa|apply ia|apply ua|refine Aa ?_ Wa.out|refine Aa ?_ Dc.out|refine Aa ?_ Mi.out)|exact HB.out))));have uc:=ja.mk (Ya (g:=Da) (o:=.cells #[.slice Eb Ta.length Db,.int .i64 Pa,.int .i64 Oa,.int .i64 Ma,.int .i64 Vc] 118 (0,0)) (by (with_reducible repeat (first|refine Ga ?_ _|refine Ia ?_|refine Fa ?_ _));exact za.out) hb);have Qc:=ja.mk (Ya (g:=Ja) (o:=.cells #[.slice none 0 0,.int .i64 0,.int .i64 0,.int .i64 0,.int .i64 0] 68 (0,0)) (by (with_reducible repeat (first|refine Ga ?_ _|refine Ia ?_|refine Fa ?_ _));exact Ba.out) hb);have Td:=ja.mk (Ya (g:=we) (o:=.cells #[.slice none 0 0,.int .i64 0,.int .i64 0,.int .i64 0,.int .i64 0] 68 (0,0)) (by (with_reducible repeat (first|refine Ga ?_ _|refine Ia ?_|refine Fa ?_ _));exact Ld.out) hb);have dh:=ja.mk (Na (by repeat (first|(with_reducible first|exact HB.out|apply qa|apply ia|apply ua|refine Aa ?_ Wa.out|refine Aa ?_ Dc.out|refine Aa ?_ Mi.out)|exact HB.out)) hb);clear za Ba Ld HB;have Wr:=Qb;have za:=uc;have Ba:=Qc;have Ld:=Td;have HB:=dh;clear Qb uc Qc Td dh;(try clear hb);(try clear hb2);(try clear hk);(try clear hi);(try clear Am);obtain ⟨sG,Hw,UF⟩:=Kd.Mf Wr.out;subst UF;have RW:=zh.out;have AW:=Ke.out;have Pr:w9.cell? ⟨we,0,none⟩=some (.slice none 0 0):=(ga Ld.out 0).trans rfl;have Nr:w9.cell? ⟨we,1,none⟩=some (.int .i64 0):=(ga Ld.out 1).trans rfl;have Mr:w9.cell? ⟨we,2,none⟩=some (.int .i64 0):=(ga Ld.out 2).trans rfl;have Lr:w9.cell? ⟨we,3,none⟩=some (.int .i64 0):=(ga Ld.out 3).trans rfl;have Kr:w9.cell? ⟨we,4,none⟩=some (.int .i64 0):=(ga Ld.out 4).trans rfl;have cr:=aa Ld.out 0;have br:=aa Ld.out 1;have Zq:=aa Ld.out 2;have Yq:=aa Ld.out 3;have Xq:=aa Ld.out 4;have Qj:w9.cell? ⟨Da,0,none⟩=some (.slice Eb Ta.length Db):=(ga za.out 0).trans rfl;have Pj:w9.cell? ⟨Da,1,none⟩=some (.int .i64 Pa):=(ga za.out 1).trans rfl;have Xn:w9.cell? ⟨Da,2,none⟩=some (.int .i64 Oa):=(ga za.out 2).trans rfl;have Wn:w9.cell? ⟨Da,3,none⟩=some (.int .i64 Ma):=(ga za.out 3).trans rfl;have Vn:w9.cell? ⟨Da,4,none⟩=some (.int .i64 Vc):=(ga za.out 4).trans rfl;have Oj:=aa za.out 0;have Mj:=aa za.out 1;have Sn:=aa za.out 2;have Rn:=aa za.out 3;have Qn:=aa za.out 4;have Lp:w9.cell? ⟨Ja,0,none⟩=some (.slice none 0 0):=(ga Ba.out 0).trans rfl;have Kp:w9.cell? ⟨Ja,1,none⟩=some (.int .i64 0):=(ga Ba.out 1).trans rfl;have Jp:w9.cell? ⟨Ja,2,none⟩=some (.int .i64 0):=(ga Ba.out 2).trans rfl;have Ip:w9.cell? ⟨Ja,3,none⟩=some (.int .i64 0):=(ga Ba.out 3).trans rfl;have Hp:w9.cell? ⟨Ja,4,none⟩=some (.int .i64 0):=(ga Ba.out 4).trans rfl;have Dp:=aa Ba.out 0;have Cp:=aa Ba.out 1;have Bp:=aa Ba.out 2;have Ap:=aa Ba.out 3;have zp:=aa Ba.out 4))
 refine bodyPost_ret (results_cell_row rfl _ _ Ja 68 #[.slice sG t104.length Hw,.int .i64 Pa,.int .i64 Oa,.int .i64 Ma,.int .i64 Vc] (0,0) _ rfl (by (with_reducible repeat (first|refine Ga ?_ _|refine Ia ?_|refine Fa ?_ _));refine zb (cs:=#[.slice sG t104.length Hw,.int .i64 Pa,.int .i64 Oa,.int .i64 Ma,.int .i64 0]) ?_ 4 _ rfl;(with_reducible repeat (first|refine Ga ?_ _|refine Ia ?_|refine Fa ?_ _));refine zb (cs:=#[.slice sG t104.length Hw,.int .i64 Pa,.int .i64 Oa,.int .i64 0,.int .i64 0]) ?_ 3 _ rfl;(with_reducible repeat (first|refine Ga ?_ _|refine Ia ?_|refine Fa ?_ _));refine zb (cs:=#[.slice sG t104.length Hw,.int .i64 Pa,.int .i64 0,.int .i64 0,.int .i64 0]) ?_ 2 _ rfl;(with_reducible repeat (first|refine Ga ?_ _|refine Ia ?_|refine Fa ?_ _));refine zb (cs:=#[.slice sG t104.length Hw,.int .i64 0,.int .i64 0,.int .i64 0,.int .i64 0]) ?_ 1 _ rfl;(with_reducible repeat (first|refine Ga ?_ _|refine Ia ?_|refine Fa ?_ _));refine zb (cs:=#[.slice none 0 0,.int .i64 0,.int .i64 0,.int .i64 0,.int .i64 0]) ?_ 0 _ rfl;(with_reducible repeat (first|refine Ga ?_ _|refine Ia ?_|refine Fa ?_ _));refine Tc ?_ Ke.out _;(with_reducible repeat (first|refine Ga ?_ _|refine Ia ?_|refine Fa ?_ _));refine Tc ?_ Ke.out _;(with_reducible repeat (first|refine Ga ?_ _|refine Ia ?_|refine Fa ?_ _));refine Tc ?_ Ke.out _;(with_reducible repeat (first|refine Ga ?_ _|refine Ia ?_|refine Fa ?_ _));refine Tc ?_ Ke.out _;(with_reducible repeat (first|refine Ga ?_ _|refine Ia ?_|refine Fa ?_ _));refine Tc ?_ Ke.out _;(with_reducible repeat (first|refine Ga ?_ _|refine Ia ?_|refine Fa ?_ _));exact Ba.out) Try.underlying68 rfl (by kernel_rfl)) rfl ?_
 exact ⟨_,by first|rfl|(simp [La,Ka] <;> rfl)|(simp [*,La,Ka] <;> rfl),by (with_reducible repeat (first|apply Kd.Sd|apply Kd.ee|apply Kd.Ie));exact Kd.Hg (Kd.Qk (p:=⟨Ja,4,none⟩) (Kd.Qk (p:=⟨Ja,3,none⟩) (Kd.Qk (p:=⟨Ja,2,none⟩) (Kd.Qk (p:=⟨Ja,1,none⟩) (Kd.Qk (p:=⟨Ja,0,none⟩) (Kd.Qk (p:=⟨we,4,none⟩) (Kd.Qk (p:=⟨we,3,none⟩) (Kd.Qk (p:=⟨we,2,none⟩) (Kd.Qk (p:=⟨we,1,none⟩) (Kd.Qk (p:=⟨we,0,none⟩) (Kd.Np (Kd.Np Wr.out Ld.out (by decide)) Ba.out (by decide)) (fun _ hk=>hk.1.2) (.slice sG t104.length Hw)) (fun _ hk=>hk.1.2) (.int .i64 Pa)) (fun _ hk=>hk.1.2) (.int .i64 Oa)) (fun _ hk=>hk.1.2) (.int .i64 Ma)) (fun _ hk=>hk.1.2) (.int .i64 Vc)) (fun _ hk=>hk.2) (.slice sG t104.length Hw)) (fun _ hk=>hk.2) (.int .i64 Pa)) (fun _ hk=>hk.2) (.int .i64 Oa)) (fun _ hk=>hk.2) (.int .i64 Ma)) (fun _ hk=>hk.2) (.int .i64 Vc)) (fun _ hk=>trivial),by repeat (first|(with_reducible first|exact HB.out|apply qa|apply ia|apply ua|refine Aa ?_ Wa.out|refine Aa ?_ Dc.out|refine Aa ?_ Mi.out)|exact HB.out)⟩
def Sc.l0:Nat→List (Dl)→List (Dh)→Int→Option ((List (Dh)))
 | 0,_,_,_=>none
 | k + 1,x0,x3,x4=>if x4 < (x0.length:Int) then (if 0 ≤ x4 then ((Kg.f k ((De x0 x4).f0) ((De x0 x4).f1) ((De x0 x4).f2) ((De x0 x4).f3) ((De x0 x4).f4)).bind fun uq=>(if x4 < (x3.length:Int) then (Sc.l0 k x0 (x3.set (x4:Int).toNat (⟨uq.1,uq.2.1,uq.2.2.1,uq.2.2.2.1,uq.2.2.2.2⟩:Dh)) (wrap64 (x4 + 1))) else (none))) else (none)) else (some x3)
def Sc.f (k:Nat) (l0:List (Dl)):Option ((List (Dh))):=if 0 ≤ (l0.length:Int) then (if ((l0.length:Int):Int).toNat ≤ 5026338869833 then (Sc.l0 k l0 (List.replicate ((l0.length:Int):Int).toNat lD) 0) else (none)) else (none)
theorem Sc.Qd:∀ k,(∀ y0 y1 y2,Nb (Sc.l0 k y0 y1 y2) (Sc.l0 (k + 1) y0 y1 y2))
 | 0=>fun _ _ _ r h=>by simp [Sc.l0] at h
 | k + 1=>by
  have Ff:=Sc.Qd k
  ·intro y0 y1 y2
   unfold Sc.l0
   repeat' first
   | (with_reducible exact Ff _ _ _)
   | (with_reducible exact Kg.mono _ _ _ _ _ _)
   | (with_reducible exact Nb.refl _)
   | (with_reducible exact Nb.none _)
   | (with_reducible refine Nb.ite ?_ ?_)
   | (with_reducible refine Nb.bind ?_ (fun _=>?_))
   | exact Ff _ _ _
   | exact Kg.mono _ _ _ _ _ _
   | exact Nb.none _
   | refine Nb.ite ?_ ?_
   | refine Nb.bind ?_ (fun _=>?_)
theorem Sc.mono:∀ a0 k,Nb (Sc.f k a0) (Sc.f (k + 1) a0):=by
 intro a0 k
 have Ff:=Sc.Qd k
 unfold Sc.f
 repeat' first
   | (with_reducible exact Ff _ _ _)
   | (with_reducible exact Kg.mono _ _ _ _ _ _)
   | (with_reducible exact Nb.refl _)
   | (with_reducible exact Nb.none _)
   | (with_reducible refine Nb.ite ?_ ?_)
   | (with_reducible refine Nb.bind ?_ (fun _=>?_))
   | exact Ff _ _ _
   | exact Kg.mono _ _ _ _ _ _
   | exact Nb.none _
   | refine Nb.ite ?_ ?_
   | refine Nb.bind ?_ (fun _=>?_)
theorem Sc.calls (k:Nat) (A0:Option Addr) (c0:Nat) (l0:List (Dl)) (r:List (Dh)) (w:World) (hr0:Kd.C fz w A0 l0.length l0) (hc0:l0.length ≤ c0) (h:Sc.f k l0=some r) :
  Calls Try.prog 56 #[.slice A0 l0.length c0] w fun e w'=>∃ v0_:Value,e = .returned (v0_)∧Kd.S Tp 68 w' w.heap.size (fun _=>True) v0_ r∧Below w.heap.size w w':=by
 have eL:=Try.underlying118
 have XJ:=Try.underlying68
 have Bh:=ja.mk hr0
 have Rw:=ja.mk hc0
 clear hr0 hc0
 have HB:=ja.mk (Below.refl w.heap.size w)
 have H:(if 0 ≤ (l0.length:Int) then (if ((l0.length:Int):Int).toNat ≤ 5026338869833 then (Sc.l0 k l0 (List.replicate ((l0.length:Int):Int).toNat lD) 0) else (none)) else (none))=some r:=h
 clear h
 by_cases c2:0 ≤ (l0.length:Int)
 ·rw [if_pos c2] at H
  have nA:=eq_true c2
  have XF:decide (0 ≤ (l0.length:Int))=true:=decide_eq_true c2
  clear c2
  by_cases c3:((l0.length:Int):Int).toNat ≤ 5026338869833
  ·rw [if_pos c3] at H
   have Jh:=eq_true c3
   have Zp:decide (((l0.length:Int):Int).toNat ≤ 5026338869833)=true:=decide_eq_true c3
   clear c3
   obtain ⟨ef,hy101⟩:∃ y_:List (Dh),y_=(List.replicate ((l0.length:Int):Int).toNat lD):=⟨_,rfl⟩
   replace H:(Sc.l0 k l0 ef 0)=some r:=by first|(rw [hy101];with_reducible exact H)|(have Vh:=(Option.bind_some _ _).symm.trans H;rw [hy101];with_reducible exact Vh)|(have Vh:=(Option.bind_some _ _).symm.trans H;with_reducible exact Vh)|with_reducible exact H|(rw [hy101];exact H)|exact H
   have Yj:=ja.mk hy101
   clear hy101
   have H':=ja.mk H
   clear H
   go_enter Try.func56,Try.ntmps56
   go_wp2_with (first|((with_reducible refine Pb (N:=7) rfl ?_);refine Kd.pU Tp _ 68 rfl (N:=7) rfl 28 _ _ rfl (l0.length:Int) rfl rfl Try.underlying28 (.agg #[(.slice none 0 0),(.int .i64 0),(.int .i64 0),(.int .i64 0),(.int .i64 0)]) 56 RS rfl (by decide) (by omega) lD (ok:=fun _=>True) (Xo:=fun _=>True) (WA _ _ _ lD (Kd.nw _ _ _ _ _)) (fun _ hk=>hk) trivial (of_decide_eq_true (by first|(with_reducible assumption)|assumption)) (Nat.le_trans (Nat.mul_le_mul_right _ (of_decide_eq_true (by first|(with_reducible assumption)|assumption):(l0.length:Int).toNat ≤ 5026338869833)) (by omega)) (Below.refl _ _) (Nat.le_refl _) ?_;intro vD w4 ND hb fF yo;clear fF yo;(first|rw [← Yj.out] at ND|(simp only [Int.reduceToNat] at ND;rw [← Yj.out] at ND));have Qb:=ja.mk (Kd.eD ND (Qa (by repeat (first|(with_reducible first|exact HB.out|apply qa|apply ia|apply ua)|exact HB.out))));have uc:=ja.mk (Na (by repeat (first|(with_reducible first|exact HB.out|apply qa|apply ia|apply ua)|exact HB.out)) hb);clear HB;have vq:=Qb;have HB:=uc;clear Qb uc hb ND))
   go_loopg [4] k (fun kq v4 w'=>∃ (uf:List (Dh)) (Od:Int),v4 = .int .i64 Od∧ja (Sc.l0 kq l0 uf Od=some r)∧ja (kq ≤ k)∧ja (Kd.S Tp 68 w' w.heap.size (fun _=>True) vD uf)∧ja (Below w.heap.size w w'))
   case atStart=>exact ⟨(ef),(0),(by first|rfl|(simp;done)|(simp [*];done)),H',⟨Nat.le_refl _⟩,⟨by (with_reducible repeat (first|apply Kd.St|apply Kd.Rt|apply Kd.tu));exact vq.out⟩,⟨by repeat (first|(with_reducible first|exact HB.out|apply qa|apply ia|apply ua)|exact HB.out)⟩⟩
   case round =>
    clear H'
    try clear c2
    try clear nA
    try clear XF
    try clear p2
    try clear c3
    try clear Jh
    try clear Zp
    try clear c5
    (try clear HA)
    (try clear Ig)
    (try clear Ai)
    (try clear HB)
    obtain ⟨uf,Od,rfl,HA,Ig,Ai,HB⟩:=hrel
    cases gk with
    | zero=>exact absurd HA.out (by simp [Sc.l0])
    | succ k1 =>
     have H:=HA.out
     clear HA
     simp only [Sc.l0] at H
     by_cases c6:Od < (l0.length:Int)
     ·rw [if_pos c6] at H
      have El:decide (Od < (l0.length:Int))=true:=decide_eq_true c6
      clear c6
      by_cases c7:0 ≤ Od
      ·rw [if_pos c7] at H
       have Uo:decide (0 ≤ Od)=true:=decide_eq_true c7
       clear c7
       replace H:=Option.bind_eq_some_iff.mp H
       obtain ⟨⟨t105,t108,t109,t110,t111⟩,NM,H⟩:=H
       replace H:(if Od < (uf.length:Int) then (Sc.l0 k1 l0 (uf.set (Od:Int).toNat (⟨t105,t108,t109,t110,t111⟩:Dh)) (wrap64 (Od + 1))) else (none))=some r:=H
       have A8:=ja.mk NM
       clear NM
       by_cases c9:Od < (uf.length:Int)
       ·rw [if_pos c9] at H
        have Az:decide (Od < (uf.length:Int))=true:=decide_eq_true c9
        clear c9
        obtain ⟨y112,hy112⟩:∃ y_:List (Dh),y_=(uf.set (Od:Int).toNat (⟨t105,t108,t109,t110,t111⟩:Dh)):=⟨_,rfl⟩
        replace H:(Sc.l0 k1 l0 y112 (wrap64 (Od + 1)))=some r:=by first|(rw [hy112];with_reducible exact H)|(have Vh:=(Option.bind_some _ _).symm.trans H;rw [hy112];with_reducible exact Vh)|(have Vh:=(Option.bind_some _ _).symm.trans H;with_reducible exact Vh)|with_reducible exact H|(rw [hy112];exact H)|exact H
        have uM:=ja.mk hy112
        clear hy112
        have H':=ja.mk H
        clear H
        have Gh:0 ≤ (Od:Int):=of_decide_eq_true (by first|(with_reducible assumption)|assumption)
        have Fh:Od < (l0.length:Int):=of_decide_eq_true (by first|(with_reducible assumption)|assumption)
        obtain ⟨Rj,Pz,Fz,rm,ue,Te,Re,Qe,We,Ij,Kj⟩:=cD Bh.out Od Gh Fh
        cases rm
        replace ue:=(HB.out.cell (World.block_lt_of_cell? w _ ue)).trans ue
        replace Te:=(HB.out.cell (World.block_lt_of_cell? w _ Te)).trans Te
        replace Re:=(HB.out.cell (World.block_lt_of_cell? w _ Re)).trans Re
        replace Qe:=(HB.out.cell (World.block_lt_of_cell? w _ Qe)).trans Qe
        replace We:=(HB.out.cell (World.block_lt_of_cell? w _ We)).trans We
        have ow:=ja.mk Kj
        have sw:=ja.mk Ij
        clear Kj Ij
        replace Gh:=eq_true Gh
        replace Fh:=eq_true Fh
        go_wp2_with (first|((with_reducible refine xb (f:=88) rfl ?_);refine qd (some 20) rfl rfl Try.func88 (by kernel_rfl) rfl #[.agg #[.slice Pz ((De l0 Od).f0).length Fz,.int .i64 ((De l0 Od).f1),.int .i64 ((De l0 Od).f2),.int .i64 ((De l0 Od).f3),.int .i64 ((De l0 Od).f4)]] rfl (by (try simp only [List.map_toArray,List.map_cons,List.map_nil]);first|done|rfl|(simp only [List.length_drop,List.length_take];rfl)) ?_;(with_reducible refine (Kg.calls k1 _ _ ((De l0 Od).f0) ((De l0 Od).f1) ((De l0 Od).f2) ((De l0 Od).f3) ((De l0 Od).f4) t105 t108 t109 t110 t111 _ ?side1 ?side2 A8.out).mono ?_);(case side1=>repeat (first|exact (Kd.Mb ow.out HB.out)|(with_reducible refine Kd.Lc ?_ _)|(with_reducible refine Kd.Jc ?_ _)|(with_reducible refine Kd.Ed ?_)));(case side2=>exact sw.out);rintro e Ei ⟨tK,rfl,Am,hb⟩;refine ⟨_,rfl,?_⟩;have Qb:=ja.mk (Kd.pM (by (with_reducible repeat (first|apply Kd.St|apply Kd.Rt|apply Kd.tu));exact Ai.out) (Kd.uU Am) hb);have uc:=ja.mk (Kd.ri Am (Qa (by repeat (first|(with_reducible first|exact HB.out|apply qa|apply ia|apply ua)|exact HB.out))));have Qc:=ja.mk (Na (by repeat (first|(with_reducible first|exact HB.out|apply qa|apply ia|apply ua)|exact HB.out)) hb);clear Ai HB;have Ai:=Qb;have FM:=uc;have HB:=Qc;clear Qb uc Qc;(try clear hb);(try clear hb2);(try clear hk);(try clear hi);(try clear Am);have CG:0 ≤ (Od:Int):=of_decide_eq_true (by first|(with_reducible assumption)|assumption);have BG:(Od:Int) < ((uf.length:Int):Int):=of_decide_eq_true (by first|(with_reducible assumption)|assumption);obtain ⟨Di,Hw,UF,TL,TT,zaf,Qw⟩:=Kd.oM Ai.out (by omega);(first|cases UF|(injection UF with Lk en_ ec_;(first|subst Lk|(injection Lk with Lk;subst Lk));subst ec_;clear en_));have Sw:=ja.mk TL;have Taf:=ja.mk Qw;clear TL TT Qw;obtain ⟨_,ZT,Yw,qz,Si,fj,_,_⟩:=Kd.eG Ai.out lD (Od:Int) CG BG;obtain ⟨rS,rfl,qaf⟩:=Bw qz;have uB:Ei.cell? ⟨Di,(Od:Int).toNat * 5,none⟩=some (rS):=Si 0 _ rfl;have cL:Ei.cell? ⟨Di,(Od:Int).toNat * 5 + 1,none⟩=some (.int .i64 ((Ua uf Od).f1)):=Si 1 _ rfl;have bL:Ei.cell? ⟨Di,(Od:Int).toNat * 5 + 2,none⟩=some (.int .i64 ((Ua uf Od).f2)):=Si 2 _ rfl;have ZK:Ei.cell? ⟨Di,(Od:Int).toNat * 5 + 3,none⟩=some (.int .i64 ((Ua uf Od).f3)):=Si 3 _ rfl;have YK:Ei.cell? ⟨Di,(Od:Int).toNat * 5 + 4,none⟩=some (.int .i64 ((Ua uf Od).f4)):=Si 4 _ rfl;have kC:Ei.frozen? ⟨Di,(Od:Int).toNat * 5,none⟩=false:=fj 0;have CL:Ei.frozen? ⟨Di,(Od:Int).toNat * 5 + 1,none⟩=false:=fj 1;have BL:Ei.frozen? ⟨Di,(Od:Int).toNat * 5 + 2,none⟩=false:=fj 2;have AL:Ei.frozen? ⟨Di,(Od:Int).toNat * 5 + 3,none⟩=false:=fj 3;have zL:Ei.frozen? ⟨Di,(Od:Int).toNat * 5 + 4,none⟩=false:=fj 4;clear Yw Si fj qz;replace CG:=eq_true CG;replace BG:=eq_true BG;have n_:=ja.mk (Kd.su (ok':=(fun k_=>some k_ ≠ (tK:Value).ownBlock)) Ai.out (fun k_ hk=>hk.2));clear Ai;have Ai:=n_;clear n_;have jG:=ja.mk (show Kd.S Tp 68 Ei w.heap.size (fun k_=>((fun _=>True)) k_∧¬ ((fun k_=>some k_=(tK:Value).ownBlock)) k_) (.slice (some ⟨Di,0,none⟩) uf.length Hw) uf from (by (with_reducible repeat (first|apply Kd.St|apply Kd.Rt|apply Kd.tu));exact Kd.su Ai.out (fun k_ hk=>⟨trivial,fun e_=>hk e_⟩)));obtain ⟨gag,YT,Vv,pz,Ki,ej,fT,X0⟩:=Kd.eG jG.out lD (Od:Int) (of_decide_eq_true (by first|(with_reducible assumption)|assumption)) (by have h_:(Od:Int) < ((uf.length:Int):Int):=of_decide_eq_true (by first|(with_reducible assumption)|assumption);first|exact h_|(have e_:=(Kd.Ej Ai.out).1;omega)|simpa using h_);obtain ⟨Oad,rfl,paf⟩:=Bw pz;have Nz:=Kd.U2 X0 (of_decide_eq_true (by first|(with_reducible assumption)|assumption)) (by have h_:(Od:Int) < ((uf.length:Int):Int):=of_decide_eq_true (by first|(with_reducible assumption)|assumption);first|exact h_|(have e_:=(Kd.Ej Ai.out).1;omega)|simpa using h_) (seg:=[tK,.int .i64 t108,.int .i64 t109,.int .i64 t110,.int .i64 t111]) (j:=0) (show 5 ≤ 5 from by decide) (x':=(⟨t105,t108,t109,t110,t111⟩:Dh)) (WA _ _ _ (⟨t105,t108,t109,t110,t111⟩:Dh) (Kd.Hg (Kd.Ut rfl (Kd.Hg (ok':=fun k_=>((fun _=>True)) k_∧k_ ≠ Di) (Kd.Kz (FM.out) (Kd.gJ Ai.out) (by decide)) (fun k_ hk=>⟨trivial,fun e_=>(hk.2) (by rw [e_];rfl)⟩))) (fun _ h_=>Or.inr (h_)))) (fun _ hk=>hk) (fun k_ lV=>((Kd.Hg (ok':=fun k_=>((fun _=>True)) k_∧k_ ≠ Di) (Kd.Kz (FM.out) (Kd.gJ Ai.out) (by decide)) (fun k_ hk=>⟨trivial,fun e_=>(hk.2) (by rw [e_];rfl)⟩))).1 k_ lV.symm);have dB:=Ki 0 _ rfl;(try simp only [show (Tp).sz=5 from rfl,Nat.mul_one,Nat.add_zero] at dB);have jC:=ej 0;(try simp only [show (Tp).sz=5 from rfl,Nat.mul_one,Nat.add_zero] at jC);have Cw:=Ki 1 _ rfl;(try simp only [show (Tp).sz=5 from rfl,Nat.mul_one,Nat.add_zero] at Cw);have Dw:=ej 1;(try simp only [show (Tp).sz=5 from rfl,Nat.mul_one,Nat.add_zero] at Dw);have cB:=Ki 2 _ rfl;(try simp only [show (Tp).sz=5 from rfl,Nat.mul_one,Nat.add_zero] at cB);have iC:=ej 2;(try simp only [show (Tp).sz=5 from rfl,Nat.mul_one,Nat.add_zero] at iC);have ZA:=Ki 3 _ rfl;(try simp only [show (Tp).sz=5 from rfl,Nat.mul_one,Nat.add_zero] at ZA);have gC:=ej 3;(try simp only [show (Tp).sz=5 from rfl,Nat.mul_one,Nat.add_zero] at gC);have YA:=Ki 4 _ rfl;(try simp only [show (Tp).sz=5 from rfl,Nat.mul_one,Nat.add_zero] at YA);have fC:=ej 4;(try simp only [show (Tp).sz=5 from rfl,Nat.mul_one,Nat.add_zero] at fC);clear Vv Ki ej pz fT X0)|((with_reducible refine Vg (t:=68) (p:=21) rfl ?_);refine Gg (t:=68) (p:=21) (v:=?vo_w13) (w1:=(((((Ei.setCell ⟨Di,(Od:Int).toNat * 5,none⟩ (tK)).setCell ⟨Di,(Od:Int).toNat * 5 + 1,none⟩ (.int .i64 t108)).setCell ⟨Di,(Od:Int).toNat * 5 + 2,none⟩ (.int .i64 t109)).setCell ⟨Di,(Od:Int).toNat * 5 + 3,none⟩ (.int .i64 t110)).setCell ⟨Di,(Od:Int).toNat * 5 + 4,none⟩ (.int .i64 t111))) ?hg ?ho ?hn ?hr ?_;(case ho=>rfl);(case hg=>rfl);(case hn=>rfl);(case hr=>first|(go_simp;done)|(go_simp;rfl)|(have Taj:=fun (a_:Addr) (W_:World) (m_:Mode)=>run_store Try.prog W_ a_ tK m_ (by first|exact JK (by assumption)|exact IK (by assumption)|exact LK (by assumption)|exact KK (by assumption));first|(go_simp;done)|(go_simp;rfl)));intro mo hw;have hg:Ei.grownBy mo (some Di):=(by rw [hw];exact Nz.2);have bp:Kd.S Tp 68 mo w.heap.size (fun _=>True) (.slice (some ⟨Di,0,none⟩) uf.length Hw) y112:=(by rw [hw,uM.out];exact Nz.1);clear Nz;have Qb:=ja.mk (bp);have uc:=ja.mk ((by rw [hw];exact Aa (Aa (Aa (Aa (Aa (HB.out) Sw.out) Sw.out) Sw.out) Sw.out) Sw.out:Below w.heap.size w mo));clear Ai HB FM;have Ai:=Qb;have HB:=uc;clear Qb uc hg hw bp))
        go_roundg k1
        case measure=>have:=Ig.out;omega
        case rel=>exact ⟨(y112),(wrap64 (Od + 1)),(by first|rfl|(simp;done)|(simp [*];done)),H',⟨by have:=Ig.out;omega⟩,⟨by (with_reducible repeat (first|apply Kd.St|apply Kd.Rt|apply Kd.tu));exact Ai.out⟩,⟨by repeat (first|(with_reducible first|exact HB.out|apply qa|apply ia|apply ua)|exact HB.out)⟩⟩
       ·rw [if_neg c9] at H
        exact absurd H (by simp)
      ·rw [if_neg c7] at H
       exact absurd H (by simp)
     ·rw [if_neg c6] at H
      have El:decide (Od < (l0.length:Int))=false:=decide_eq_false c6
      clear c6
      obtain rfl:=Option.some.inj H
      go_wp2
      go_ret
      exact ⟨_,by first|rfl|(simp [La,Ka] <;> rfl)|(simp [*,La,Ka] <;> rfl),by (with_reducible repeat (first|apply Kd.St|apply Kd.Rt|apply Kd.tu));exact Ai.out,by repeat (first|(with_reducible first|exact HB.out|apply qa|apply ia|apply ua)|exact HB.out)⟩
  ·rw [if_neg c3] at H
   exact absurd H (by simp)
 ·rw [if_neg c2] at H
  exact absurd H (by simp)
end Go.Proofs.Ytmifdccaajngcaa.P
end
