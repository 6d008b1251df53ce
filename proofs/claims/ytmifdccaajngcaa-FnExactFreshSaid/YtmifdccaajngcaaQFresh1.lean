import Derived.Test.YtmifdccaajngcaaProg
import Derived.Below
import Derived.Deep.Draws
import Derived.Deep.AppendLies
import Derived.Maps.AppendAt
import Derived.OwnWalk
import Derived.Laws.BytesArg
import Derived.Laws.MakeOwn
import Derived.Laws.OwnMore
import Derived.Deep.OwnRows
import Derived.Tactics
import Derived.Lib.ConvBytes
import Derived.Laws.Slices
import Derived.WalkKit
import Derived.KernelRfl
import Derived.RowKit3
import Derived.Deep.LoopGhost
import Derived.Deep.QuietTactic
import Derived.BigQuiet
import Derived.WideLaws
import Derived.Deep.DeepCutAuto
import Derived.Deep.CutBlock
import Derived.Deep.RegionHeld3
import Derived.Laws.Rows
import Derived.Lib.AppendStr
import Derived.ArgAppend
import Derived.Laws.IdiomCopy
import Derived.OrdersHeld
import Derived.Laws.BitsLemmas
import Derived.RowKit
import Derived.Test.YtmifdccaajngcaaQFreshW1
import Derived.Deep.Slices
import Derived.ChangeArms
import Derived.OpenShut
import Derived.WideShapes
section
namespace Go.Proofs.Ytmifdccaajngcaa.P
open Go.RowKit Go.Proofs.Ca.xb Go.Proofs.Ca.Xb Go.Proofs.Ca.ic
attribute [local go_sem] Vd Td we ue Dd Cd Ud Sd
set_option linter.unusedVariables false
set_option linter.unusedSimpArgs false
def xW:Option Int→Value
 | none=>.nilIface
 | some c=>.iface 0 (.int .i64 c)
theorem La:xW none = .nilIface:=rfl
theorem Ka (c:Int):xW (some c) = .iface 0 (.int .i64 c):=rfl
theorem info3:(Try.prog.info? 3).map (fun i=>(i.zero,i.size,i.bytes))=some (some (.int .i64 0),1,8):=by kernel_rfl
theorem rP:(Try.prog.info? 68).map (fun i=>(i.zero,i.size,i.bytes))=some (some (.agg #[(.slice none 0 0),(.int .i64 0),(.int .i64 0),(.int .i64 0),(.int .i64 0)]),5,56):=by kernel_rfl
theorem qP:(Try.prog.info? 70).map (fun i=>(i.zero,i.size,i.bytes))=some (some (.agg #[(.int .i64 0),(.int .i64 0),(.int .i64 0),(.int .i64 0),(.int .i64 0),(.int .i64 0),(.string ⟨#[]⟩)]),7,64):=by kernel_rfl
theorem pP:(Try.prog.info? 77).map (fun i=>(i.zero,i.size,i.bytes))=some (some (.agg #[(.int .i64 0),(.int .i64 0)]),2,16):=by kernel_rfl
theorem oP:(Try.prog.info? 79).map (fun i=>(i.zero,i.size,i.bytes))=some (some (.agg #[(.int .i64 0),(.int .i64 0)]),2,16):=by kernel_rfl
structure Dk where
 f0:Int
 f1:Int
 f2:Int
 f3:Int
 f4:Int
 f5:Int
 f6:ByteArray
def DR:Dk:=⟨(0:Int),(0:Int),(0:Int),(0:Int),(0:Int),(0:Int),(⟨#[]⟩:ByteArray)⟩
def Qw:Kd Dk:=Kd.cH (Kd.pair (Kd.int .i64) (Kd.pair (Kd.int .i64) (Kd.pair (Kd.int .i64) (Kd.pair (Kd.int .i64) (Kd.pair (Kd.int .i64) (Kd.pair (Kd.int .i64) Kd.string)))))) (fun x:Dk=>(x.f0,x.f1,x.f2,x.f3,x.f4,x.f5,x.f6))
theorem BG {w:World} {x:Dk} {cs:List Value} (h:Qw.K w x cs):cs=[.int .i64 x.f0,.int .i64 x.f1,.int .i64 x.f2,.int .i64 x.f3,.int .i64 x.f4,.int .i64 x.f5,.string x.f6]:=by
 obtain ⟨_,_,rfl,rfl,⟨_,_,rfl,rfl,⟨_,_,rfl,rfl,⟨_,_,rfl,rfl,⟨_,_,rfl,rfl,⟨_,_,rfl,rfl,rfl⟩⟩⟩⟩⟩⟩:=h
 exact rfl
def Rc (xs:List Dk) (i:Int):Dk:=xs.getD i.toNat DR
theorem Vz {w:World} {A:Option Addr} {n:Nat} {xs:List Dk} (h:Kd.C Qw w A n xs) (i:Int) (h0:0 ≤ i) (h1:i < n):∃ ad , A=some ad∧w.cell? (ad.add (i.toNat * 7))=some (.int .i64 (Rc xs i).f0)∧w.cell? ⟨(ad.add (i.toNat * 7)).block,(ad.add (i.toNat * 7)).off + 1,none⟩=some (.int .i64 (Rc xs i).f1)∧w.cell? ⟨(ad.add (i.toNat * 7)).block,(ad.add (i.toNat * 7)).off + 2,none⟩=some (.int .i64 (Rc xs i).f2)∧w.cell? ⟨(ad.add (i.toNat * 7)).block,(ad.add (i.toNat * 7)).off + 3,none⟩=some (.int .i64 (Rc xs i).f3)∧w.cell? ⟨(ad.add (i.toNat * 7)).block,(ad.add (i.toNat * 7)).off + 4,none⟩=some (.int .i64 (Rc xs i).f4)∧w.cell? ⟨(ad.add (i.toNat * 7)).block,(ad.add (i.toNat * 7)).off + 5,none⟩=some (.int .i64 (Rc xs i).f5)∧w.cell? ⟨(ad.add (i.toNat * 7)).block,(ad.add (i.toNat * 7)).off + 6,none⟩=some (.string (Rc xs i).f6):=by
 obtain ⟨ad,c,e,_,hK,hc0⟩:=Kd.Cx h DR i h0 h1
 have hc:∀ j u,c[j]? = some u→w.cell? (ad.add (i.toNat * 7 + j))=some u:=hc0
 obtain rfl:=BG hK
 exact ⟨ad,e,hc 0 _ rfl,by rw [← Oe _ _ 1 (by omega)];exact hc 1 _ rfl,by rw [← Oe _ _ 2 (by omega)];exact hc 2 _ rfl,by rw [← Oe _ _ 3 (by omega)];exact hc 3 _ rfl,by rw [← Oe _ _ 4 (by omega)];exact hc 4 _ rfl,by rw [← Oe _ _ 5 (by omega)];exact hc 5 _ rfl,by rw [← Oe _ _ 6 (by omega)];exact hc 6 _ rfl⟩
structure Xi where
 f0:(List Dk)
 f1:Int
 f2:Int
 f3:Int
 f4:Int
def ER:Xi:=⟨([]:List Dk),(0:Int),(0:Int),(0:Int),(0:Int)⟩
def Rw:Kd Xi:=Kd.cH (Kd.pair (Kd.slice 161 Qw) (Kd.pair (Kd.int .i64) (Kd.pair (Kd.int .i64) (Kd.pair (Kd.int .i64) (Kd.int .i64))))) (fun x:Xi=>(x.f0,x.f1,x.f2,x.f3,x.f4))
theorem CG {w:World} {x:Xi} {cs:List Value} (h:Rw.K w x cs):∃ A0 c0,cs=[.slice A0 x.f0.length c0,.int .i64 x.f1,.int .i64 x.f2,.int .i64 x.f3,.int .i64 x.f4]∧x.f0.length ≤ c0∧Qw.C w A0 x.f0.length x.f0:=by
 obtain ⟨_,_,rfl,⟨A0,c0,rfl,l0,g0⟩,⟨_,_,rfl,rfl,⟨_,_,rfl,rfl,⟨_,_,rfl,rfl,rfl⟩⟩⟩⟩:=h
 exact ⟨A0,c0,rfl,l0,g0⟩
def Qd (xs:List Xi) (i:Int):Xi:=xs.getD i.toNat ER
theorem Wz {w:World} {A:Option Addr} {n:Nat} {xs:List Xi} (h:Kd.C Rw w A n xs) (i:Int) (h0:0 ≤ i) (h1:i < n):∃ ad A0 c0,A=some ad∧w.cell? (ad.add (i.toNat * 5))=some (.slice A0 (Qd xs i).f0.length c0)∧w.cell? ⟨(ad.add (i.toNat * 5)).block,(ad.add (i.toNat * 5)).off + 1,none⟩=some (.int .i64 (Qd xs i).f1)∧w.cell? ⟨(ad.add (i.toNat * 5)).block,(ad.add (i.toNat * 5)).off + 2,none⟩=some (.int .i64 (Qd xs i).f2)∧w.cell? ⟨(ad.add (i.toNat * 5)).block,(ad.add (i.toNat * 5)).off + 3,none⟩=some (.int .i64 (Qd xs i).f3)∧w.cell? ⟨(ad.add (i.toNat * 5)).block,(ad.add (i.toNat * 5)).off + 4,none⟩=some (.int .i64 (Qd xs i).f4)∧(Qd xs i).f0.length ≤ c0∧Qw.C w A0 (Qd xs i).f0.length (Qd xs i).f0:=by
 obtain ⟨ad,c,e,_,hK,hc0⟩:=Kd.Cx h ER i h0 h1
 have hc:∀ j u,c[j]? = some u→w.cell? (ad.add (i.toNat * 5 + j))=some u:=hc0
 obtain ⟨A0,c0,rfl,l0,g0⟩:=CG hK
 exact ⟨ad,A0,c0,e,hc 0 _ rfl,by rw [← Oe _ _ 1 (by omega)];exact hc 1 _ rfl,by rw [← Oe _ _ 2 (by omega)];exact hc 2 _ rfl,by rw [← Oe _ _ 3 (by omega)];exact hc 3 _ rfl,by rw [← Oe _ _ 4 (by omega)];exact hc 4 _ rfl,l0,g0⟩
structure mX where
 f0:(List Int)
 f1:Int
 f2:Int
 f3:Int
 f4:(List Xi)
def k25:Kd mX:=Kd.cH (Kd.pair (Kd.slice 3 (Kd.int .i64)) (Kd.pair (Kd.int .i64) (Kd.pair (Kd.int .i64) (Kd.pair (Kd.int .i64) (Kd.slice 118 Rw))))) (fun x:mX=>(x.f0,x.f1,x.f2,x.f3,x.f4))
theorem NH {w:World} {x:mX} {cs:List Value} (h:k25.K w x cs):∃ A0 c0 A4 c4,cs=[.slice A0 x.f0.length c0,.int .i64 x.f1,.int .i64 x.f2,.int .i64 x.f3,.slice A4 x.f4.length c4]∧x.f0.length ≤ c0∧(Kd.int .i64).C w A0 x.f0.length x.f0∧x.f4.length ≤ c4∧Rw.C w A4 x.f4.length x.f4:=by
 obtain ⟨_,_,rfl,⟨A0,c0,rfl,l0,g0⟩,⟨_,_,rfl,rfl,⟨_,_,rfl,rfl,⟨_,_,rfl,rfl,⟨A4,c4,rfl,l4,g4⟩⟩⟩⟩⟩:=h
 exact ⟨A0,c0,A4,c4,rfl,l0,g0,l4,g4⟩
structure Jh where
 f0:Int
 f1:Int
 f2:Int
 f3:Int
 f4:Int
 f5:Int
 f6:ByteArray
def eA:Jh:=⟨(0:Int),(0:Int),(0:Int),(0:Int),(0:Int),(0:Int),(⟨#[]⟩:ByteArray)⟩
def Ro:Kd Jh:=Kd.cH (Kd.pair (Kd.int .i64) (Kd.pair (Kd.int .i64) (Kd.pair (Kd.int .i64) (Kd.pair (Kd.int .i64) (Kd.pair (Kd.int .i64) (Kd.pair (Kd.int .i64) Kd.string)))))) (fun x:Jh=>(x.f0,x.f1,x.f2,x.f3,x.f4,x.f5,x.f6))
theorem LH {w:World} {x:Jh} {cs:List Value} (h:Ro.K w x cs):cs=[.int .i64 x.f0,.int .i64 x.f1,.int .i64 x.f2,.int .i64 x.f3,.int .i64 x.f4,.int .i64 x.f5,.string x.f6]:=by
 obtain ⟨_,_,rfl,rfl,⟨_,_,rfl,rfl,⟨_,_,rfl,rfl,⟨_,_,rfl,rfl,⟨_,_,rfl,rfl,⟨_,_,rfl,rfl,rfl⟩⟩⟩⟩⟩⟩:=h
 exact rfl
theorem Ux {w:World} {base:Nat} {ok:Nat→Prop} {x:Jh} {cs:List Value} (h:Ro.M w base ok x cs):cs=[.int .i64 x.f0,.int .i64 x.f1,.int .i64 x.f2,.int .i64 x.f3,.int .i64 x.f4,.int .i64 x.f5,.string x.f6]:=by
 obtain ⟨_,_,rfl,rfl,⟨_,_,rfl,rfl,⟨_,_,rfl,rfl,⟨_,_,rfl,rfl,⟨_,_,rfl,rfl,⟨_,_,rfl,rfl,rfl⟩⟩⟩⟩⟩⟩:=h
 exact rfl
theorem bD (w:World) (base:Nat) (ok:Nat→Prop) (x:Jh)  : Ro.M w base ok x [.int .i64 x.f0,.int .i64 x.f1,.int .i64 x.f2,.int .i64 x.f3,.int .i64 x.f4,.int .i64 x.f5,.string x.f6]:=⟨[.int .i64 x.f0],[.int .i64 x.f1,.int .i64 x.f2,.int .i64 x.f3,.int .i64 x.f4,.int .i64 x.f5,.string x.f6],rfl,rfl,⟨[.int .i64 x.f1],[.int .i64 x.f2,.int .i64 x.f3,.int .i64 x.f4,.int .i64 x.f5,.string x.f6],rfl,rfl,⟨[.int .i64 x.f2],[.int .i64 x.f3,.int .i64 x.f4,.int .i64 x.f5,.string x.f6],rfl,rfl,⟨[.int .i64 x.f3],[.int .i64 x.f4,.int .i64 x.f5,.string x.f6],rfl,rfl,⟨[.int .i64 x.f4],[.int .i64 x.f5,.string x.f6],rfl,rfl,⟨[.int .i64 x.f5],[.string x.f6],rfl,rfl,rfl⟩⟩⟩⟩⟩⟩
def zb (xs:List Jh) (i:Int):Jh:=xs.getD i.toNat eA
theorem Jo {w:World} {A:Option Addr} {n:Nat} {xs:List Jh} (h:Kd.C Ro w A n xs) (i:Int) (h0:0 ≤ i) (h1:i < n):∃ ad , A=some ad∧w.cell? (ad.add (i.toNat * 7))=some (.int .i64 (zb xs i).f0)∧w.cell? ⟨(ad.add (i.toNat * 7)).block,(ad.add (i.toNat * 7)).off + 1,none⟩=some (.int .i64 (zb xs i).f1)∧w.cell? ⟨(ad.add (i.toNat * 7)).block,(ad.add (i.toNat * 7)).off + 2,none⟩=some (.int .i64 (zb xs i).f2)∧w.cell? ⟨(ad.add (i.toNat * 7)).block,(ad.add (i.toNat * 7)).off + 3,none⟩=some (.int .i64 (zb xs i).f3)∧w.cell? ⟨(ad.add (i.toNat * 7)).block,(ad.add (i.toNat * 7)).off + 4,none⟩=some (.int .i64 (zb xs i).f4)∧w.cell? ⟨(ad.add (i.toNat * 7)).block,(ad.add (i.toNat * 7)).off + 5,none⟩=some (.int .i64 (zb xs i).f5)∧w.cell? ⟨(ad.add (i.toNat * 7)).block,(ad.add (i.toNat * 7)).off + 6,none⟩=some (.string (zb xs i).f6):=by
 obtain ⟨ad,c,e,_,hK,hc0⟩:=Kd.Cx h eA i h0 h1
 have hc:∀ j u,c[j]? = some u→w.cell? (ad.add (i.toNat * 7 + j))=some u:=hc0
 obtain rfl:=LH hK
 exact ⟨ad,e,hc 0 _ rfl,by rw [← Oe _ _ 1 (by omega)];exact hc 1 _ rfl,by rw [← Oe _ _ 2 (by omega)];exact hc 2 _ rfl,by rw [← Oe _ _ 3 (by omega)];exact hc 3 _ rfl,by rw [← Oe _ _ 4 (by omega)];exact hc 4 _ rfl,by rw [← Oe _ _ 5 (by omega)];exact hc 5 _ rfl,by rw [← Oe _ _ 6 (by omega)];exact hc 6 _ rfl⟩
structure Eh where
 f0:(List Jh)
 f1:Int
 f2:Int
 f3:Int
 f4:Int
def eB:Eh:=⟨([]:List Jh),(0:Int),(0:Int),(0:Int),(0:Int)⟩
def Xq:Kd Eh:=Kd.cH (Kd.pair (Kd.slice 70 Ro) (Kd.pair (Kd.int .i64) (Kd.pair (Kd.int .i64) (Kd.pair (Kd.int .i64) (Kd.int .i64))))) (fun x:Eh=>(x.f0,x.f1,x.f2,x.f3,x.f4))
theorem MH {w:World} {x:Eh} {cs:List Value} (h:Xq.K w x cs):∃ A0 c0,cs=[.slice A0 x.f0.length c0,.int .i64 x.f1,.int .i64 x.f2,.int .i64 x.f3,.int .i64 x.f4]∧x.f0.length ≤ c0∧Ro.C w A0 x.f0.length x.f0:=by
 obtain ⟨_,_,rfl,⟨A0,c0,rfl,l0,g0⟩,⟨_,_,rfl,rfl,⟨_,_,rfl,rfl,⟨_,_,rfl,rfl,rfl⟩⟩⟩⟩:=h
 exact ⟨A0,c0,rfl,l0,g0⟩
theorem Vx {w:World} {base:Nat} {ok:Nat→Prop} {x:Eh} {cs:List Value} (h:Xq.M w base ok x cs):∃ v0,cs=[v0,.int .i64 x.f1,.int .i64 x.f2,.int .i64 x.f3,.int .i64 x.f4]∧Ro.R 70 w base ok v0 x.f0:=by
 obtain ⟨_,_,rfl,⟨v0,rfl,g0⟩,⟨_,_,rfl,rfl,⟨_,_,rfl,rfl,⟨_,_,rfl,rfl,rfl⟩⟩⟩⟩:=h
 exact ⟨v0,rfl,g0⟩
theorem cD (w:World) (base:Nat) (ok:Nat→Prop) (x:Eh) {v0:Value} (g0:Ro.R 70 w base ok v0 x.f0):Xq.M w base ok x [v0,.int .i64 x.f1,.int .i64 x.f2,.int .i64 x.f3,.int .i64 x.f4]:=⟨[v0],[.int .i64 x.f1,.int .i64 x.f2,.int .i64 x.f3,.int .i64 x.f4],rfl,⟨v0,rfl,g0⟩,⟨[.int .i64 x.f1],[.int .i64 x.f2,.int .i64 x.f3,.int .i64 x.f4],rfl,rfl,⟨[.int .i64 x.f2],[.int .i64 x.f3,.int .i64 x.f4],rfl,rfl,⟨[.int .i64 x.f3],[.int .i64 x.f4],rfl,rfl,rfl⟩⟩⟩⟩
def mb (xs:List Eh) (i:Int):Eh:=xs.getD i.toNat eB
theorem Wi {w:World} {A:Option Addr} {n:Nat} {xs:List Eh} (h:Kd.C Xq w A n xs) (i:Int) (h0:0 ≤ i) (h1:i < n):∃ ad A0 c0,A=some ad∧w.cell? (ad.add (i.toNat * 5))=some (.slice A0 (mb xs i).f0.length c0)∧w.cell? ⟨(ad.add (i.toNat * 5)).block,(ad.add (i.toNat * 5)).off + 1,none⟩=some (.int .i64 (mb xs i).f1)∧w.cell? ⟨(ad.add (i.toNat * 5)).block,(ad.add (i.toNat * 5)).off + 2,none⟩=some (.int .i64 (mb xs i).f2)∧w.cell? ⟨(ad.add (i.toNat * 5)).block,(ad.add (i.toNat * 5)).off + 3,none⟩=some (.int .i64 (mb xs i).f3)∧w.cell? ⟨(ad.add (i.toNat * 5)).block,(ad.add (i.toNat * 5)).off + 4,none⟩=some (.int .i64 (mb xs i).f4)∧(mb xs i).f0.length ≤ c0∧Ro.C w A0 (mb xs i).f0.length (mb xs i).f0:=by
 obtain ⟨ad,c,e,_,hK,hc0⟩:=Kd.Cx h eB i h0 h1
 have hc:∀ j u,c[j]? = some u→w.cell? (ad.add (i.toNat * 5 + j))=some u:=hc0
 obtain ⟨A0,c0,rfl,l0,g0⟩:=MH hK
 exact ⟨ad,A0,c0,e,hc 0 _ rfl,by rw [← Oe _ _ 1 (by omega)];exact hc 1 _ rfl,by rw [← Oe _ _ 2 (by omega)];exact hc 2 _ rfl,by rw [← Oe _ _ 3 (by omega)];exact hc 3 _ rfl,by rw [← Oe _ _ 4 (by omega)];exact hc 4 _ rfl,l0,g0⟩
structure Ph where
 f0:Int
 f1:Int
def bH:Ph:=⟨(0:Int),(0:Int)⟩
def ak:Kd Ph:=Kd.cH (Kd.pair (Kd.int .i64) (Kd.int .i64)) (fun x:Ph=>(x.f0,x.f1))
theorem KH {w:World} {x:Ph} {cs:List Value} (h:ak.K w x cs):cs=[.int .i64 x.f0,.int .i64 x.f1]:=by
 obtain ⟨_,_,rfl,rfl,rfl⟩:=h
 exact rfl
theorem Fh {w:World} {base:Nat} {ok:Nat→Prop} {x:Ph} {cs:List Value} (h:ak.M w base ok x cs):cs=[.int .i64 x.f0,.int .i64 x.f1]:=by
 obtain ⟨_,_,rfl,rfl,rfl⟩:=h
 exact rfl
theorem Xp (w:World) (base:Nat) (ok:Nat→Prop) (x:Ph)  : ak.M w base ok x [.int .i64 x.f0,.int .i64 x.f1]:=⟨[.int .i64 x.f0],[.int .i64 x.f1],rfl,rfl,rfl⟩
def Ad (xs:List Ph) (i:Int):Ph:=xs.getD i.toNat bH
theorem Ax {w:World} {A:Option Addr} {n:Nat} {xs:List Ph} (h:Kd.C ak w A n xs) (i:Int) (h0:0 ≤ i) (h1:i < n):∃ ad , A=some ad∧w.cell? (ad.add (i.toNat * 2))=some (.int .i64 (Ad xs i).f0)∧w.cell? ⟨(ad.add (i.toNat * 2)).block,(ad.add (i.toNat * 2)).off + 1,none⟩=some (.int .i64 (Ad xs i).f1):=by
 obtain ⟨ad,c,e,_,hK,hc0⟩:=Kd.Cx h bH i h0 h1
 have hc:∀ j u,c[j]? = some u→w.cell? (ad.add (i.toNat * 2 + j))=some u:=hc0
 obtain rfl:=KH hK
 exact ⟨ad,e,hc 0 _ rfl,by rw [← Oe _ _ 1 (by omega)];exact hc 1 _ rfl⟩
structure Ko where
 f0:Int
 f1:Int
def zR:Ko:=⟨(0:Int),(0:Int)⟩
def TN:Kd Ko:=Kd.cH (Kd.pair (Kd.int .i64) (Kd.int .i64)) (fun x:Ko=>(x.f0,x.f1))
theorem tA {w:World} {x:Ko} {cs:List Value} (h:TN.K w x cs):cs=[.int .i64 x.f0,.int .i64 x.f1]:=by
 obtain ⟨_,_,rfl,rfl,rfl⟩:=h
 exact rfl
theorem aD (w:World) (base:Nat) (ok:Nat→Prop) (x:Ko)  : TN.M w base ok x [.int .i64 x.f0,.int .i64 x.f1]:=⟨[.int .i64 x.f0],[.int .i64 x.f1],rfl,rfl,rfl⟩
def Ta (xs:List Ko) (i:Int):Ko:=xs.getD i.toNat zR
theorem Bh {w:World} {A:Option Addr} {n:Nat} {xs:List Ko} (h:Kd.C TN w A n xs) (i:Int) (h0:0 ≤ i) (h1:i < n):∃ ad , A=some ad∧w.cell? (ad.add (i.toNat * 2))=some (.int .i64 (Ta xs i).f0)∧w.cell? ⟨(ad.add (i.toNat * 2)).block,(ad.add (i.toNat * 2)).off + 1,none⟩=some (.int .i64 (Ta xs i).f1):=by
 obtain ⟨ad,c,e,_,hK,hc0⟩:=Kd.Cx h zR i h0 h1
 have hc:∀ j u,c[j]? = some u→w.cell? (ad.add (i.toNat * 2 + j))=some u:=hc0
 obtain rfl:=tA hK
 exact ⟨ad,e,hc 0 _ rfl,by rw [← Oe _ _ 1 (by omega)];exact hc 1 _ rfl⟩
structure YG where
 f0:Int
 f1:Int
 f2:Int
 f3:ByteArray
 f4:(List YG)
def uR (d:Kd YG):Kd YG:=Kd.cH (Kd.pair (Kd.int .i64) (Kd.pair (Kd.int .i64) (Kd.pair (Kd.int .i64) (Kd.pair Kd.string (Kd.slice 172 d))))) (fun x:YG=>(x.f0,x.f1,x.f2,x.f3,x.f4))
theorem iP:Kd.Sub uR [172]:=Kd.WC _ (Kd.aj (Kd.sub_const _ (by decide)) (Kd.aj (Kd.sub_const _ (by decide)) (Kd.aj (Kd.sub_const _ (by decide)) (Kd.aj (Kd.sub_const _ (by decide)) (Kd.Nt 172 (by decide) Kd.sB)))))
theorem JR:∀ n,(Kd.upto uR 5 [172] n).sz=5:=Kd.UC (fun _=>rfl)
def E9:Kd YG:=Kd.fix uR 5 [172] JR (Kd.rB iP)
structure au where
 f0:Int
 f1:Int
 f2:Int
 f3:(List YG)
 f4:(List au)
 f5:(List au)
def vR (d:Kd au):Kd au:=Kd.cH (Kd.pair (Kd.int .i64) (Kd.pair (Kd.int .i64) (Kd.pair (Kd.int .i64) (Kd.pair (Kd.slice 172 E9) (Kd.pair (Kd.slice 168 d) (Kd.slice 168 d)))))) (fun x:au=>(x.f0,x.f1,x.f2,x.f3,x.f4,x.f5))
theorem jP:Kd.Sub vR [168,172]:=Kd.WC _ (Kd.aj (Kd.sub_const _ (by decide)) (Kd.aj (Kd.sub_const _ (by decide)) (Kd.aj (Kd.sub_const _ (by decide)) (Kd.aj (Kd.sub_const _ (by decide)) (Kd.aj (Kd.Nt 168 (by decide) Kd.sB) (Kd.Nt 168 (by decide) Kd.sB))))))
theorem KR:∀ n,(Kd.upto vR 6 [168,172] n).sz=6:=Kd.UC (fun _=>rfl)
def F9:Kd au:=Kd.fix vR 6 [168,172] KR (Kd.rB jP)
theorem EH {α:Type} {d:Kd α} {e:Nat} {w:World} {base:Nat} {ok:Nat→Prop} {v:Value} {xs:List α} (h:qa (d.R e w base ok v xs)):v.oneCell' = true:=by
 obtain ⟨A,c,rfl⟩:=Kd.mh h.out
 rfl
theorem DH {α:Type} {d:Kd α} {e:Nat} {w:World} {base:Nat} {ok:Nat→Prop} {v:Value} {xs:List α} (h:qa (d.S e w base ok v xs)):v.oneCell' = true:=by
 obtain ⟨A,c,rfl⟩:=Kd.mh (Kd.CO h.out)
 rfl
theorem GH {α:Type} {d:Kd α} {e:Nat} {w:World} {base:Nat} {ok:Nat→Prop} {v:Value} {xs:List α} (h:qa (Kd.N d e w base ok v xs)):v.oneCell' = true:=by
 obtain ⟨A,c,rfl⟩:=Kd.EN h.out
 rfl
theorem FH {α:Type} {d:Kd α} {e:Nat} {w:World} {base:Nat} {ok:Nat→Prop} {v:Value} {xs:List α} (h:qa (d.Q e w base ok v xs)):v.oneCell' = true:=by
 obtain ⟨A,c,rfl,_⟩:=Kd.DN h.out
 rfl
end Go.Proofs.Ytmifdccaajngcaa.P
end
section
namespace Go.Proofs.Ytmifdccaajngcaa.P
open Go.RowKit Go.Proofs.Ca.xb Go.Proofs.Ca.Xb Go.Proofs.Ca.ic
set_option linter.unusedVariables false
set_option linter.unusedSimpArgs false
def Ek (P:Program) (t:TypeId) {α:Type} (d:Kd α) (fit:α→Prop):Prop :=
 ∀ {H:Type} {enc:TypeId × Value→H} {w:World} {base:Nat} {spare:Nat→Bool} {held:Bool} {fuel:Nat} {cs:List Value} {x:DataW H × List MemPlace},
  DataW.trod enc P w base spare held fuel t cs=some x→∃ a:α,d.K w a cs∧fit a
theorem xG {P:Program} {t:TypeId} {k:IntKind} (ht:P.underlying t=some (.int k)):Ek P t (Kd.int k) (fun n=>(Lit.int k n).wf=true):=by
 intro H enc w base spare held fuel cs x h
 obtain ⟨n,rfl,_,hw⟩:=DataW.trod_int ht h
 exact ⟨n,rfl,hw⟩
def Fo (n:Int):Prop:=-9223372036854775808 ≤ n∧n ≤ 9223372036854775807
theorem wf_i64 {n:Int} (h:(Lit.int .i64 n).wf=true):Fo n:=by
 simp [Lit.wf,IntKind.min,IntKind.max,IntKind.signed,IntKind.bits] at h
 unfold Fo
 omega
theorem ig {P:Program} {t:TypeId} (ht:P.underlying t=some (.int .i64)):Ek P t (Kd.int .i64) Fo:=by
 intro H enc w base spare held fuel cs x h
 obtain ⟨n,h1,h2⟩:=xG ht h
 exact ⟨n,h1,wf_i64 h2⟩
theorem Ay {P:Program} {t:TypeId} (ht:P.underlying t=some .string):Ek P t Kd.string (fun s=>s.size ≤ 9223372036854775807):=by
 intro H enc w base spare held fuel cs x h
 obtain ⟨s,rfl,_,hw⟩:=DataW.trod_string ht h
 exact ⟨s,rfl,by simpa [maxLen] using hw⟩
theorem ku {α:Type} {p:Nat→α→Prop}:∀ n,(∀ i,i < n→∃ a,p i a)→∃ xs:List α,xs.length=n∧∀ (i:Nat) (a:α),xs[i]? = some a→p i a
 | 0,_=>⟨[],rfl,fun i a h=>by simp at h⟩
 | n + 1,h=>by
  obtain ⟨xs,hl,hx⟩:=ku n (fun i hi=>h i (by omega))
  obtain ⟨a,ha⟩:=h n (by omega)
  refine ⟨xs ++ [a],by simp [hl],fun i b hb=>?_⟩
  rcases Nat.lt_or_ge i xs.length with hi|hi
  ·rw [List.getElem?_append_left hi] at hb
   exact hx i b hb
  ·have:i=n:=by
    have:=(List.getElem?_eq_some_iff.1 hb).1
    simp [hl] at this
    omega
   subst this
   rw [List.getElem?_append_right hi,hl] at hb
   simp at hb
   exact hb ▸ ha
theorem ep {P:Program} {t e e':TypeId} {α:Type} {d:Kd α} {fit:α→Prop} (ht:P.underlying t=some (.slice e)) (hs:P.cellsOf e=d.sz) (h:Ek P e d fit):Ek P t (Kd.slice e' d) (fun l=>l.length ≤ 9223372036854775807∧∀ a ∈ l,fit a):=by
 intro H enc w base spare held fuel cs x hx
 rcases Go.Deep.open_slice ht hx with ⟨rfl,_⟩|⟨a,len,cap,m,n,D,Pl,rfl,hb,hl,hm,hmm,_,hel⟩
 ·exact ⟨[],⟨none,0,rfl,Nat.le_refl _,rfl,by simp,fun hp=>absurd hp (by simp)⟩,by simp,by simp⟩
 ·have hle:len ≤ m:=by rw [hmm];split <;> omega
  have dD:len ≤ 9223372036854775807:=by simp only [maxLen] at hm;omega
  obtain ⟨xs,hxl,hxs⟩:=ku (α:=α) (p:=fun i y=>∃ c,c.length=d.sz∧d.K w y c∧(∀ j u,c[j]? = some u→w.cell? (a.add (i * d.sz + j))=some u)∧fit y) len (fun i hi=>by
   obtain ⟨cs',h1,h2⟩:=hel i (by omega)
   obtain ⟨y,hy,hf⟩:=h h2
   obtain ⟨_,NI,jO⟩:=World.cells?_some h1
   refine ⟨y,cs',by rw [NI,hs],hy,fun j u hu=>?_,hf⟩
   have hj:j < P.cellsOf e:=by rw [← NI];exact (List.getElem?_eq_some_iff.1 hu).1
   rw [← hs,← Go.Deep.add_add,jO j hj]
   exact hu)
  refine ⟨xs,⟨some a,cap,by rw [hxl],by omega,rfl,by omega,fun _=>⟨a,rfl,fun j p hj=>?_⟩⟩,by omega,fun y hy=>?_⟩
  ·obtain ⟨c,h1,h2,h3,_⟩:=hxs j p hj
   exact ⟨c,h1,h2,h3⟩
  ·obtain ⟨i,hi,rfl⟩:=List.getElem_of_mem hy
   obtain ⟨c,_,_,_,h4⟩:=hxs i _ (List.getElem?_eq_getElem hi)
   exact h4
def aA (P:Program) (fs:List Field) (off:Nat) {α:Type} (d:Kd α) (fit:α→Prop):Prop :=
 ∀ {H:Type} {enc:TypeId × Value→H} {w:World} {base:Nat} {spare:Nat→Bool} {held:Bool} {n:Nat} {cs:List Value},
  (∀ f ∈ fs,∃ y,DataW.trod enc P w base spare held n f.type ((cs.drop f.offset).take (P.cellsOf f.type))=some y)→cs.length=off + d.sz→∃ a:α,d.K w a (cs.drop off)∧fit a
theorem jr {P:Program} {f:Field} {off:Nat} {α:Type} {d:Kd α} {fit:α→Prop} (ho:f.offset=off) (hs:P.cellsOf f.type=d.sz) (h:Ek P f.type d fit):aA P [f] off d fit:=by
 intro H enc w base spare held n cs hf hl
 obtain ⟨y,hy⟩:=hf f (by simp)
 rw [ho,hs,List.take_of_length_le (by rw [List.length_drop];omega)] at hy
 exact h hy
theorem Cf {P:Program} {f:Field} {fs:List Field} {off off2:Nat} {α β:Type} {d:Kd α} {d2:Kd β} {fit:α→Prop} {wW:β→Prop} (ho:f.offset=off) (hs:P.cellsOf f.type=d.sz) (dY:off2=off + d.sz) (h:Ek P f.type d fit) (h2:aA P fs off2 d2 wW):aA P (f :: fs) off (Kd.pair d d2) (fun p=>fit p.1∧wW p.2):=by
 intro H enc w base spare held n cs hf hl
 have hl':cs.length=off + (d.sz + d2.sz):=hl
 obtain ⟨y,hy⟩:=hf f (by simp)
 rw [ho,hs] at hy
 obtain ⟨a,ha,fa⟩:=h hy
 obtain ⟨b,hb,fb⟩:=h2 (fun g hg=>hf g (List.mem_cons_of_mem _ hg)) (by omega)
 refine ⟨(a,b),⟨(cs.drop off).take d.sz,cs.drop off2,?_,ha,hb⟩,fa,fb⟩
 rw [dY,← List.drop_drop,List.take_append_drop]
theorem Rn {P:Program} {t:TypeId} {fs:Array Field} {α:Type} {d:Kd α} {fit:α→Prop} (ht:P.underlying t=some (.struct fs)) (hs:P.cellsOf t=d.sz) (h:aA P fs.toList 0 d fit):Ek P t d fit:=by
 intro H enc w base spare held fuel cs x hx
 obtain ⟨xs,n,_,_,hl,hxl,hf⟩:=DataW.trod_struct ht hx
 have:=h (w:=w) (enc:=enc) (base:=base) (spare:=spare) (held:=held) (n:=n) (cs:=cs) (fun f hfm=>by
  obtain ⟨i,hi,rfl⟩:=List.getElem_of_mem hfm
  have hi':i < fs.size:=by simpa using hi
  have h1:=hf i (fs.toList[i]) (by simp [hi'])
  rw [List.getElem?_eq_getElem (by omega)] at h1
  exact ⟨_,h1⟩) (by omega)
 simpa using this
theorem Qt {P:Program} {t:TypeId} {α β:Type} {d:Kd α} {fit:α→Prop} {g:β→α} (gi:α→β) (hg:∀ a,g (gi a)=a) (h:Ek P t d fit):Ek P t (Kd.cH d g) (fun b=>fit (g b)):=by
 intro H enc w base spare held fuel cs x hx
 obtain ⟨a,ha,hf⟩:=h hx
 refine ⟨gi a,?_,?_⟩
 ·show d.K w (g (gi a)) cs
  rw [hg]
  exact ha
 ·show fit (g (gi a))
  rw [hg]
  exact hf
theorem CH {P:Program} {t:TypeId} {fs:Array Field} {α:Type} {d:Kd α} {fit:α→Prop} {r:Reach} {b0:Nat} {H:Type} {enc:TypeId × Value→H} {w:World} {base:Nat} {spare:Nat→Bool} {held:Bool} {v:Value} {dt:DataW H} {p:List MemPlace}
  (ht:P.underlying t=some (.struct fs)) (h:Ek P t d fit) (hv:Value.okWide P w r b0 t v) (hd:DataW.Trod enc P w base spare held t v dt p) :
  ∃ (a:α) (cs:Array Value),v = .agg cs∧d.K w a cs.toList∧fit a:=by
 obtain ⟨cs,rfl,hsz⟩:=Go.WideShapes.okWide_struct ht hv
 obtain ⟨fuel,hf⟩:=hd
 obtain ⟨a,ha,hfa⟩:=h hf
 exact ⟨a,cs,rfl,by simpa [Value.cells] using ha,hfa⟩
end Go.Proofs.Ytmifdccaajngcaa.P
end
section
namespace Go.Proofs.Ytmifdccaajngcaa.P
open Go.RowKit Go.Proofs.Ca.xb Go.Proofs.Ca.Xb Go.Proofs.Ca.ic
set_option linter.unusedVariables false
set_option linter.unusedSimpArgs false
theorem iK:Ek Try.prog 22 (Kd.slice 3 (Kd.int .i64)) (fun l=>l.length ≤ 9223372036854775807∧∀ a ∈ l,Fo a):=ep Try.underlying22 (by kernel_rfl) (ig Try.underlying3)
def jC (x:Dk):Prop:=Fo x.f0∧Fo x.f1∧Fo x.f2∧Fo x.f3∧Fo x.f4∧Fo x.f5∧(fun s=>s.size ≤ 9223372036854775807) x.f6
theorem zH:Ek Try.prog 161 Qw jC:=Qt (fun p=>⟨p.1,p.2.1,p.2.2.1,p.2.2.2.1,p.2.2.2.2.1,p.2.2.2.2.2.1,p.2.2.2.2.2.2⟩) (fun _=>rfl) (Rn Try.underlying161 (by kernel_rfl) (Cf rfl (by kernel_rfl) (by kernel_rfl) (ig Try.underlying3) (Cf rfl (by kernel_rfl) (by kernel_rfl) (ig Try.underlying3) (Cf rfl (by kernel_rfl) (by kernel_rfl) (ig Try.underlying3) (Cf rfl (by kernel_rfl) (by kernel_rfl) (ig Try.underlying3) (Cf rfl (by kernel_rfl) (by kernel_rfl) (ig Try.underlying3) (Cf rfl (by kernel_rfl) (by kernel_rfl) (ig Try.underlying3) (jr rfl (by kernel_rfl) (Ay Try.underlying9)))))))))
theorem BH:Ek Try.prog 116 (Kd.slice 161 Qw) (fun l=>l.length ≤ 9223372036854775807∧∀ a ∈ l,jC a):=ep Try.underlying116 (by kernel_rfl) zH
def kC (x:Xi):Prop:=(fun l=>l.length ≤ 9223372036854775807∧∀ a ∈ l,jC a) x.f0∧Fo x.f1∧Fo x.f2∧Fo x.f3∧Fo x.f4
theorem AH:Ek Try.prog 118 Rw kC:=Qt (fun p=>⟨p.1,p.2.1,p.2.2.1,p.2.2.2.1,p.2.2.2.2⟩) (fun _=>rfl) (Rn Try.underlying118 (by kernel_rfl) (Cf rfl (by kernel_rfl) (by kernel_rfl) BH (Cf rfl (by kernel_rfl) (by kernel_rfl) (ig Try.underlying3) (Cf rfl (by kernel_rfl) (by kernel_rfl) (ig Try.underlying3) (Cf rfl (by kernel_rfl) (by kernel_rfl) (ig Try.underlying3) (jr rfl (by kernel_rfl) (ig Try.underlying3)))))))
theorem gK:Ek Try.prog 23 (Kd.slice 118 Rw) (fun l=>l.length ≤ 9223372036854775807∧∀ a ∈ l,kC a):=ep Try.underlying23 (by kernel_rfl) AH
def mO (x:mX):Prop:=(fun l=>l.length ≤ 9223372036854775807∧∀ a ∈ l,Fo a) x.f0∧Fo x.f1∧Fo x.f2∧Fo x.f3∧(fun l=>l.length ≤ 9223372036854775807∧∀ a ∈ l,kC a) x.f4
theorem fK:Ek Try.prog 25 k25 mO:=Qt (fun p=>⟨p.1,p.2.1,p.2.2.1,p.2.2.2.1,p.2.2.2.2⟩) (fun _=>rfl) (Rn Try.underlying25 (by kernel_rfl) (Cf rfl (by kernel_rfl) (by kernel_rfl) iK (Cf rfl (by kernel_rfl) (by kernel_rfl) (ig Try.underlying3) (Cf rfl (by kernel_rfl) (by kernel_rfl) (ig Try.underlying3) (Cf rfl (by kernel_rfl) (by kernel_rfl) (ig Try.underlying3) (jr rfl (by kernel_rfl) gK))))))
end Go.Proofs.Ytmifdccaajngcaa.P
end
section
namespace Go.Proofs.Ytmifdccaajngcaa.P
open Go.RowKit Go.Proofs.Ca.xb Go.Proofs.Ca.Xb Go.Proofs.Ca.ic
attribute [local go_sem] Vd Td we ue Dd Cd Ud Sd
set_option linter.unusedVariables false
set_option linter.unusedSimpArgs false
def jb.f (a0:Int) (a1:Int) (a2:Int):Option (Bool):=if a0 ≥ a1 then (some (decide (a0 ≤ a2))) else (some false)
set_option maxHeartbeats 8000000 in
set_option maxRecDepth 100000 in
theorem jb.calls (a0:Int) (a1:Int) (a2:Int) (r:Bool) (w:World) (h:jb.f a0 a1 a2=some r) :
  Calls Try.prog 54 #[.int .i64 a0,.int .i64 a1,.int .i64 a2] w fun e w'=>e = .returned (.bool r)∧Cc w w':=by
 have H:(if a0 ≥ a1 then (some (decide (a0 ≤ a2))) else (some false))=some r:=h
 clear h
 by_cases c4:a0 ≥ a1
 ·rw [if_pos c4] at H
  have Mh:decide (a1 ≤ a0)=true:=decide_eq_true c4
  clear c4
  obtain rfl:=Option.some.inj H
  go_enter Try.func54,Try.ntmps54
  go_wp2
  go_ret
  exact ⟨by first|rfl|(simp;done)|(simp [*];done),by repeat (first|exact Cc.refl _|apply Cc.step)⟩
 ·rw [if_neg c4] at H
  have Mh:decide (a1 ≤ a0)=false:=decide_eq_false c4
  clear c4
  obtain rfl:=Option.some.inj H
  go_enter Try.func54,Try.ntmps54
  go_wp2
  go_ret
  exact ⟨by first|rfl|(simp;done)|(simp [*];done),by repeat (first|exact Cc.refl _|apply Cc.step)⟩
end Go.Proofs.Ytmifdccaajngcaa.P
end
section
namespace Go.Proofs.Ytmifdccaajngcaa.P
open Go.RowKit Go.Proofs.Ca.xb Go.Proofs.Ca.Xb Go.Proofs.Ca.ic
attribute [local go_sem] Vd Td we ue Dd Cd Ud Sd
set_option linter.unusedVariables false
set_option linter.unusedSimpArgs false
def Tc.l0:Nat→List ByteArray→ByteArray→Int→Option (Bool)
 | 0,_,_,_=>none
 | k + 1,x0,x1,x5=>if x5 < (x0.length:Int) then (if 0 ≤ x5 then (if (Vi ByteArray.empty x0 x5).toList=x1.toList then (some true) else (Tc.l0 k x0 x1 (wrap64 (x5 + 1)))) else (none)) else (some false)
def Tc.f (k:Nat) (l0:List ByteArray) (a1:ByteArray):Option (Bool):=Tc.l0 k l0 a1 0
theorem Tc.je:∀ k,(∀ y0 y1 y2,mc (Tc.l0 k y0 y1 y2) (Tc.l0 (k + 1) y0 y1 y2))
 | 0=>fun _ _ _ r h=>by simp [Tc.l0] at h
 | k + 1=>by
  have Lf:=Tc.je k
  ·intro y0 y1 y2
   unfold Tc.l0
   repeat' first
   | (with_reducible exact Lf _ _ _)
   | (with_reducible exact mc.refl _)
   | (with_reducible exact mc.none _)
   | (with_reducible refine mc.ite ?_ ?_)
   | (with_reducible refine mc.bind ?_ (fun _=>?_))
   | exact Lf _ _ _
   | exact mc.none _
   | refine mc.ite ?_ ?_
   | refine mc.bind ?_ (fun _=>?_)
theorem Tc.mono:∀ a0 a1 k,mc (Tc.f k a0 a1) (Tc.f (k + 1) a0 a1):=by
 intro a0 a1 k
 have Lf:=Tc.je k
 unfold Tc.f
 repeat' first
   | (with_reducible exact Lf _ _ _)
   | (with_reducible exact mc.refl _)
   | (with_reducible exact mc.none _)
   | (with_reducible refine mc.ite ?_ ?_)
   | (with_reducible refine mc.bind ?_ (fun _=>?_))
   | exact Lf _ _ _
   | exact mc.none _
   | refine mc.ite ?_ ?_
   | refine mc.bind ?_ (fun _=>?_)
set_option maxHeartbeats 8000000 in
set_option maxRecDepth 100000 in
theorem Tc.calls (k:Nat) (A0:Option Addr) (c0:Nat) (l0:List ByteArray) (a1:ByteArray) (r:Bool) (w:World) (hr0:Kd.C Kd.string w A0 l0.length l0) (hc0:l0.length ≤ c0) (h:Tc.f k l0 a1=some r) :
  Calls Try.prog 128 #[.slice A0 l0.length c0,.string a1] w fun e w'=>e = .returned (.bool r)∧Cc w w':=by
 have Nq:=qa.mk hr0
 have fA:=qa.mk hc0
 clear hr0 hc0
 have H:(Tc.l0 k l0 a1 0)=some r:=h
 clear h
 have H':=qa.mk H
 clear H
 go_enter Try.func128,Try.ntmps128
 go_wp2
 go_loopg [5] k (fun kq v5 w'=>∃ (Ya:Int),v5 = .int .i64 Ya∧qa (Tc.l0 kq l0 a1 Ya=some r)∧qa (kq ≤ k)∧Cc w w')
 case atStart=>exact ⟨(0),(by first|rfl|(simp;done)|(simp [*];done)),H',⟨Nat.le_refl _⟩,by repeat (first|exact Cc.refl _|apply Cc.step)⟩
 case round =>
  clear H'
  try clear c1
  try clear p2
  (try clear HA)
  (try clear We)
  obtain ⟨Ya,rfl,HA,We,⟨m1,rfl⟩⟩:=hrel
  cases gk with
  | zero=>exact absurd HA.out (by simp [Tc.l0])
  | succ k1 =>
   have H:=HA.out
   clear HA
   simp only [Tc.l0] at H
   by_cases c3:Ya < (l0.length:Int)
   ·rw [if_pos c3] at H
    have Uh:decide (Ya < (l0.length:Int))=true:=decide_eq_true c3
    clear c3
    by_cases c4:0 ≤ Ya
    ·rw [if_pos c4] at H
     have Mh:decide (0 ≤ Ya)=true:=decide_eq_true c4
     clear c4
     by_cases c5:(Vi ByteArray.empty l0 Ya).toList=a1.toList
     ·rw [if_pos c5] at H
      have Hl:((Vi ByteArray.empty l0 Ya).toList == a1.toList)=true:=beq_iff_eq.mpr c5
      have Yt:((Vi ByteArray.empty l0 Ya).toList != a1.toList)=false:=bne_eq_false_iff_eq.mpr c5
      clear c5
      obtain rfl:=Option.some.inj H
      have Yf:0 ≤ (Ya:Int):=of_decide_eq_true (by first|(with_reducible assumption)|assumption)
      have Xf:Ya < (l0.length:Int):=of_decide_eq_true (by first|(with_reducible assumption)|assumption)
      obtain ⟨Ie,Xj,Zd⟩:=Kd.Kq Nq.out Ya Yf Xf
      cases Xj
      replace Yf:=eq_true Yf
      replace Xf:=eq_true Xf
      go_wp2
      go_ret
      exact ⟨by first|rfl|(simp;done)|(simp [*];done),by repeat (first|exact Cc.refl _|apply Cc.step)⟩
     ·rw [if_neg c5] at H
      have Hl:((Vi ByteArray.empty l0 Ya).toList == a1.toList)=false:=beq_eq_false_iff_ne.mpr c5
      have Yt:((Vi ByteArray.empty l0 Ya).toList != a1.toList)=true:=bne_iff_ne.mpr c5
      have H':=qa.mk H
      clear H
      have Yf:0 ≤ (Ya:Int):=of_decide_eq_true (by first|(with_reducible assumption)|assumption)
      have Xf:Ya < (l0.length:Int):=of_decide_eq_true (by first|(with_reducible assumption)|assumption)
      obtain ⟨Ie,Xj,Zd⟩:=Kd.Kq Nq.out Ya Yf Xf
      cases Xj
      replace Yf:=eq_true Yf
      replace Xf:=eq_true Xf
      go_wp2
      go_roundg k1
      case measure=>have:=We.out;omega
      case rel=>exact ⟨(wrap64 (Ya + 1)),(by first|rfl|(simp;done)|(simp [*];done)),H',⟨by have:=We.out;omega⟩,by repeat (first|exact Cc.refl _|apply Cc.step)⟩
    ·rw [if_neg c4] at H
     exact absurd H (by simp)
   ·rw [if_neg c3] at H
    have Uh:decide (Ya < (l0.length:Int))=false:=decide_eq_false c3
    clear c3
    obtain rfl:=Option.some.inj H
    go_wp2
    go_ret
    exact ⟨by first|rfl|(simp;done)|(simp [*];done),by repeat (first|exact Cc.refl _|apply Cc.step)⟩
end Go.Proofs.Ytmifdccaajngcaa.P
end
section
namespace Go.Proofs.Ytmifdccaajngcaa.P
open Go.RowKit Go.Proofs.Ca.xb Go.Proofs.Ca.Xb Go.Proofs.Ca.ic
attribute [local go_sem] Vd Td we ue Dd Cd Ud Sd
set_option linter.unusedVariables false
set_option linter.unusedSimpArgs false
mutual
def Xa.j0:Nat→Bool→Bool→Bool→Bool→List Int→Int→Int→Int→List (Eh)→Int→Int→Int→Int→Int→Int→ByteArray→Option (Bool)
 | 0,_,_,_,_,_,_,_,_,_,_,_,_,_,_,_,_=>none
 | k + 1,x5,x6,x7,x8,x102000,Od,x102002,x102003,x102004,x103000,x103001,x103002,x103003,x103004,x103005,x103006=>if x103000=2 then (if x103000=4 then (Xa.j1 k x5 x6 x7 x8 false x102000 Od x102002 x102003 x102004 x103000 x103001 x103002 x103003 x103004 x103005 x103006) else (Xa.j1 k x5 x6 x7 x8 (x103004 != 0) x102000 Od x102002 x102003 x102004 x103000 x103001 x103002 x103003 x103004 x103005 x103006)) else (if x103006.toList=([]:List UInt8) then (if x103000=4 then (Xa.j1 k x5 x6 x7 x8 false x102000 Od x102002 x102003 x102004 x103000 x103001 x103002 x103003 x103004 x103005 x103006) else (Xa.j1 k x5 x6 x7 x8 (x103004 != 0) x102000 Od x102002 x102003 x102004 x103000 x103001 x103002 x103003 x103004 x103005 x103006)) else (Xa.j1 k x5 x6 x7 x8 true x102000 Od x102002 x102003 x102004 x103000 x103001 x103002 x103003 x103004 x103005 x103006))
def Xa.j1:Nat→Bool→Bool→Bool→Bool→Bool→List Int→Int→Int→Int→List (Eh)→Int→Int→Int→Int→Int→Int→ByteArray→Option (Bool)
 | 0,_,_,_,_,_,_,_,_,_,_,_,_,_,_,_,_,_=>none
 | k + 1,x5,x6,x7,x8,x62,x102000,Od,x102002,x102003,x102004,x103000,x103001,x103002,x103003,x103004,x103005,x103006=>if x62=true then (some false) else (if x103000=0 then (if x5=true then (if x103002=0 then (some (x103003 == 0)) else (some false)) else (some false)) else (if x103000=1 then (if x5=true then (if x6=true then (if x103003=0 then (some (x103005 == 0)) else (some false)) else (some false)) else (some false)) else (if x103000=2 then (if x5=true then (if x6=true then (if x7=true then (if x103005=0 then ((Tc.f k (([(⟨#[61,61]⟩:ByteArray),(⟨#[60]⟩:ByteArray),(⟨#[38]⟩:ByteArray),(⟨#[43]⟩:ByteArray),(⟨#[45]⟩:ByteArray),(⟨#[42]⟩:ByteArray)]:List ByteArray)) x103006).bind fun t111=>(some t111)) else (some false)) else (some false)) else (some false)) else (some false)) else (if x103000=3 then (if x5=true then (some x8) else (some false)) else (if x103000=4 then (if x103001=0 then (if x8=true then ((jb.f x103004 0 (wrap64 (x102003 - 1))).bind fun t112=>(some t112)) else (some false)) else (some false)) else (if x103000=5 then (if x5=true then (if x103002=0 then (if x103003=0 then (some (x103005 == 0)) else (some false)) else (some false)) else (some false)) else (if x103000=6 then (if x103001=0 then (if x6=true then (if x103003=0 then (some (x103005 == 0)) else (some false)) else (some false)) else (some false)) else (some false))))))))
end
def Xa.f (k:Nat) (Ra:List Int) (Ja:Int) (Ma:Int) (Oa:Int) (Qa:List (Eh)) (jc:Int) (Lb:Int) (Sb:Int) (Ub:Int) (Fc:Int) (Bd:Int) (Rd:ByteArray):Option (Bool):=(jb.f Lb 0 (wrap64 (Oa - 1))).bind fun t103=>((jb.f Sb 0 (wrap64 (Oa - 1))).bind fun t104=>((jb.f Ub 0 (wrap64 (Oa - 1))).bind fun t105=>(if t104=true then (if t105=true then ((jb.f Bd 0 (wrap64 ((Ra.length:Int) - 1))).bind fun t106=>(Xa.j0 k t103 t104 t105 t106 Ra Ja Ma Oa Qa jc Lb Sb Ub Fc Bd Rd)) else (Xa.j0 k t103 t104 t105 false Ra Ja Ma Oa Qa jc Lb Sb Ub Fc Bd Rd)) else (if Sb=(-1) then (if t105=true then ((jb.f Bd 0 (wrap64 ((Ra.length:Int) - 1))).bind fun t107=>(Xa.j0 k t103 t104 t105 t107 Ra Ja Ma Oa Qa jc Lb Sb Ub Fc Bd Rd)) else (Xa.j0 k t103 t104 t105 false Ra Ja Ma Oa Qa jc Lb Sb Ub Fc Bd Rd)) else (Xa.j0 k t103 t104 t105 false Ra Ja Ma Oa Qa jc Lb Sb Ub Fc Bd Rd)))))
theorem Xa.je:∀ k,(∀ y0 y1 y2 y3 y4 y5 y6 y7 y8 y9 fH ZO YO XO WO VO,mc (Xa.j0 k y0 y1 y2 y3 y4 y5 y6 y7 y8 y9 fH ZO YO XO WO VO) (Xa.j0 (k + 1) y0 y1 y2 y3 y4 y5 y6 y7 y8 y9 fH ZO YO XO WO VO))∧(∀ y0 y1 y2 y3 y4 y5 y6 y7 y8 y9 fH ZO YO XO WO VO l9,mc (Xa.j1 k y0 y1 y2 y3 y4 y5 y6 y7 y8 y9 fH ZO YO XO WO VO l9) (Xa.j1 (k + 1) y0 y1 y2 y3 y4 y5 y6 y7 y8 y9 fH ZO YO XO WO VO l9))
 | 0=>⟨fun _ _ _ _ _ _ _ _ _ _ _ _ _ _ _ _ r h=>by simp [Xa.j0] at h,fun _ _ _ _ _ _ _ _ _ _ _ _ _ _ _ _ _ r h=>by simp [Xa.j1] at h⟩
 | k + 1=>by
  obtain ⟨Lf,ih1⟩:=Xa.je k
  refine ⟨?_,?_⟩
  ·intro y0 y1 y2 y3 y4 y5 y6 y7 y8 y9 fH ZO YO XO WO VO
   unfold Xa.j0
   repeat' first
   | (with_reducible exact Lf _ _ _ _ _ _ _ _ _ _ _ _ _ _ _ _)
   | (with_reducible exact ih1 _ _ _ _ _ _ _ _ _ _ _ _ _ _ _ _ _)
   | (with_reducible exact Tc.mono _ _ _)
   | (with_reducible exact mc.refl _)
   | (with_reducible exact mc.none _)
   | (with_reducible refine mc.ite ?_ ?_)
   | (with_reducible refine mc.bind ?_ (fun _=>?_))
   | exact Lf _ _ _ _ _ _ _ _ _ _ _ _ _ _ _ _
   | exact ih1 _ _ _ _ _ _ _ _ _ _ _ _ _ _ _ _ _
   | exact Tc.mono _ _ _
   | exact mc.none _
   | refine mc.ite ?_ ?_
   | refine mc.bind ?_ (fun _=>?_)
  ·intro y0 y1 y2 y3 y4 y5 y6 y7 y8 y9 fH ZO YO XO WO VO l9
   unfold Xa.j1
   repeat' first
   | (with_reducible exact Lf _ _ _ _ _ _ _ _ _ _ _ _ _ _ _ _)
   | (with_reducible exact ih1 _ _ _ _ _ _ _ _ _ _ _ _ _ _ _ _ _)
   | (with_reducible exact Tc.mono _ _ _)
   | (with_reducible exact mc.refl _)
   | (with_reducible exact mc.none _)
   | (with_reducible refine mc.ite ?_ ?_)
   | (with_reducible refine mc.bind ?_ (fun _=>?_))
   | exact Lf _ _ _ _ _ _ _ _ _ _ _ _ _ _ _ _
   | exact ih1 _ _ _ _ _ _ _ _ _ _ _ _ _ _ _ _ _
   | exact Tc.mono _ _ _
   | exact mc.none _
   | refine mc.ite ?_ ?_
   | refine mc.bind ?_ (fun _=>?_)
theorem Xa.mono:∀ a0 a1 a2 a3 a4 a5 a6 a7 a8 a9 a10 a11 k,mc (Xa.f k a0 a1 a2 a3 a4 a5 a6 a7 a8 a9 a10 a11) (Xa.f (k + 1) a0 a1 a2 a3 a4 a5 a6 a7 a8 a9 a10 a11):=by
 intro a0 a1 a2 a3 a4 a5 a6 a7 a8 a9 a10 a11 k
 obtain ⟨Lf,ih1⟩:=Xa.je k
 unfold Xa.f
 repeat' first
   | (with_reducible exact Lf _ _ _ _ _ _ _ _ _ _ _ _ _ _ _ _)
   | (with_reducible exact ih1 _ _ _ _ _ _ _ _ _ _ _ _ _ _ _ _ _)
   | (with_reducible exact Tc.mono _ _ _)
   | (with_reducible exact mc.refl _)
   | (with_reducible exact mc.none _)
   | (with_reducible refine mc.ite ?_ ?_)
   | (with_reducible refine mc.bind ?_ (fun _=>?_))
   | exact Lf _ _ _ _ _ _ _ _ _ _ _ _ _ _ _ _
   | exact ih1 _ _ _ _ _ _ _ _ _ _ _ _ _ _ _ _ _
   | exact Tc.mono _ _ _
   | exact mc.none _
   | refine mc.ite ?_ ?_
   | refine mc.bind ?_ (fun _=>?_)
set_option maxHeartbeats 8000000 in
set_option maxRecDepth 100000 in
theorem Xa.calls (k:Nat) (Ib:Option Addr) (Gb:Nat) (Ra:List Int) (Ja:Int) (Ma:Int) (Oa:Int) (qc:Option Addr) (dc:Nat) (Qa:List (Eh)) (jc:Int) (Lb:Int) (Sb:Int) (Ub:Int) (Fc:Int) (Bd:Int) (Rd:ByteArray) (r:Bool) (w:World) (zf:Kd.C (Kd.int .i64) w Ib Ra.length Ra) (uf:Ra.length ≤ Gb) (bg:Kd.C Xq w qc Qa.length Qa) (cg:Qa.length ≤ dc) (h:Xa.f k Ra Ja Ma Oa Qa jc Lb Sb Ub Fc Bd Rd=some r) :
  Calls Try.prog 111 #[.agg #[.slice Ib Ra.length Gb,.int .i64 Ja,.int .i64 Ma,.int .i64 Oa,.slice qc Qa.length dc],.agg #[.int .i64 jc,.int .i64 Lb,.int .i64 Sb,.int .i64 Ub,.int .i64 Fc,.int .i64 Bd,.string Rd]] w fun e w'=>e = .returned (.bool r)∧Below w.heap.size w w':=by
 have CA:=Try.underlying30
 have BA:=Try.underlying70
 have Ve:=qa.mk zf
 have gf:=qa.mk uf
 clear zf uf
 have Tf:=qa.mk bg
 have Yg:=qa.mk cg
 clear bg cg
 have HB:=qa.mk (Below.refl w.heap.size w)
 have H:((jb.f Lb 0 (wrap64 (Oa - 1))).bind fun t103=>((jb.f Sb 0 (wrap64 (Oa - 1))).bind fun t104=>((jb.f Ub 0 (wrap64 (Oa - 1))).bind fun t105=>(if t104=true then (if t105=true then ((jb.f Bd 0 (wrap64 ((Ra.length:Int) - 1))).bind fun t106=>(Xa.j0 k t103 t104 t105 t106 Ra Ja Ma Oa Qa jc Lb Sb Ub Fc Bd Rd)) else (Xa.j0 k t103 t104 t105 false Ra Ja Ma Oa Qa jc Lb Sb Ub Fc Bd Rd)) else (if Sb=(-1) then (if t105=true then ((jb.f Bd 0 (wrap64 ((Ra.length:Int) - 1))).bind fun t107=>(Xa.j0 k t103 t104 t105 t107 Ra Ja Ma Oa Qa jc Lb Sb Ub Fc Bd Rd)) else (Xa.j0 k t103 t104 t105 false Ra Ja Ma Oa Qa jc Lb Sb Ub Fc Bd Rd)) else (Xa.j0 k t103 t104 t105 false Ra Ja Ma Oa Qa jc Lb Sb Ub Fc Bd Rd))))))=some r:=h
 clear h
 replace H:=Option.bind_eq_some_iff.mp H
 obtain ⟨t103,Ht,H⟩:=H
 replace H:((jb.f Sb 0 (wrap64 (Oa - 1))).bind fun t104=>((jb.f Ub 0 (wrap64 (Oa - 1))).bind fun t105=>(if t104=true then (if t105=true then ((jb.f Bd 0 (wrap64 ((Ra.length:Int) - 1))).bind fun t106=>(Xa.j0 k t103 t104 t105 t106 Ra Ja Ma Oa Qa jc Lb Sb Ub Fc Bd Rd)) else (Xa.j0 k t103 t104 t105 false Ra Ja Ma Oa Qa jc Lb Sb Ub Fc Bd Rd)) else (if Sb=(-1) then (if t105=true then ((jb.f Bd 0 (wrap64 ((Ra.length:Int) - 1))).bind fun t107=>(Xa.j0 k t103 t104 t105 t107 Ra Ja Ma Oa Qa jc Lb Sb Ub Fc Bd Rd)) else (Xa.j0 k t103 t104 t105 false Ra Ja Ma Oa Qa jc Lb Sb Ub Fc Bd Rd)) else (Xa.j0 k t103 t104 t105 false Ra Ja Ma Oa Qa jc Lb Sb Ub Fc Bd Rd)))))=some r:=H
 have A3:=qa.mk Ht
 clear Ht
 replace H:=Option.bind_eq_some_iff.mp H
 obtain ⟨t104,QX,H⟩:=H
 replace H:((jb.f Ub 0 (wrap64 (Oa - 1))).bind fun t105=>(if t104=true then (if t105=true then ((jb.f Bd 0 (wrap64 ((Ra.length:Int) - 1))).bind fun t106=>(Xa.j0 k t103 t104 t105 t106 Ra Ja Ma Oa Qa jc Lb Sb Ub Fc Bd Rd)) else (Xa.j0 k t103 t104 t105 false Ra Ja Ma Oa Qa jc Lb Sb Ub Fc Bd Rd)) else (if Sb=(-1) then (if t105=true then ((jb.f Bd 0 (wrap64 ((Ra.length:Int) - 1))).bind fun t107=>(Xa.j0 k t103 t104 t105 t107 Ra Ja Ma Oa Qa jc Lb Sb Ub Fc Bd Rd)) else (Xa.j0 k t103 t104 t105 false Ra Ja Ma Oa Qa jc Lb Sb Ub Fc Bd Rd)) else (Xa.j0 k t103 t104 t105 false Ra Ja Ma Oa Qa jc Lb Sb Ub Fc Bd Rd))))=some r:=H
 have A4:=qa.mk QX
 clear QX
 replace H:=Option.bind_eq_some_iff.mp H
 obtain ⟨t105,RO,H⟩:=H
 replace H:(if t104=true then (if t105=true then ((jb.f Bd 0 (wrap64 ((Ra.length:Int) - 1))).bind fun t106=>(Xa.j0 k t103 t104 t105 t106 Ra Ja Ma Oa Qa jc Lb Sb Ub Fc Bd Rd)) else (Xa.j0 k t103 t104 t105 false Ra Ja Ma Oa Qa jc Lb Sb Ub Fc Bd Rd)) else (if Sb=(-1) then (if t105=true then ((jb.f Bd 0 (wrap64 ((Ra.length:Int) - 1))).bind fun t107=>(Xa.j0 k t103 t104 t105 t107 Ra Ja Ma Oa Qa jc Lb Sb Ub Fc Bd Rd)) else (Xa.j0 k t103 t104 t105 false Ra Ja Ma Oa Qa jc Lb Sb Ub Fc Bd Rd)) else (Xa.j0 k t103 t104 t105 false Ra Ja Ma Oa Qa jc Lb Sb Ub Fc Bd Rd)))=some r:=H
 have A5:=qa.mk RO
 clear RO
 have HC6:=qa.mk H
 clear H
 go_enter Try.func111,Try.ntmps111
 go_upto_region 4 with (first|((with_reducible refine Mb (N:=2) rfl ?_);(try (refine pg (by rfl) ?_;dsimp only));refine Jb ?hg (N:=2) ?hd (cs:=#[.slice Ib Ra.length Gb,.int .i64 Ja,.int .i64 Ma,.int .i64 Oa,.slice qc Qa.length dc]) (t:=30) ?hr ?_;(case hd=>rfl);(case hg=>rfl);(case hr=>first|(go_simp;done)|(go_simp;rfl));intro Fa hg w7 Qb hb;have Pb:=qa.mk (Pa (by repeat (first|(with_reducible first|exact HB.out|apply ia|apply ja|apply za)|exact HB.out)) hb);have Wb:=qa.mk (Qb);have nc:=qa.mk ((by rw [hg];exact (Na (by repeat (first|(with_reducible first|exact HB.out|apply ia|apply ja|apply za)|exact HB.out))):w.heap.size ≤ Fa));have Nc:=qa.mk ((by rw [hg];exact (Na (by repeat (first|(with_reducible first|exact HB.out|apply ia|apply ja|apply za)|exact HB.out))):w.heap.size ≤ Fa));clear HB;have HB:=Pb;have ua:=Wb;have Nd:=nc;have Va:=Nc;clear Pb Wb nc Nc;clear hb Qb hg)|((with_reducible refine Mb (N:=3) rfl ?_);(try (refine pg (by rfl) ?_;dsimp only));refine Jb ?hg (N:=3) ?hd (cs:=#[.int .i64 jc,.int .i64 Lb,.int .i64 Sb,.int .i64 Ub,.int .i64 Fc,.int .i64 Bd,.string Rd]) (t:=70) ?hr ?_;(case hd=>rfl);(case hg=>rfl);(case hr=>first|(go_simp;done)|(go_simp;rfl));intro Ia hg w8 Qb hb;have Pb:=qa.mk (Wa (g:=Fa) (o:=.cells #[.slice Ib Ra.length Gb,.int .i64 Ja,.int .i64 Ma,.int .i64 Oa,.slice qc Qa.length dc] 30 (0,0)) (by (with_reducible repeat (first|refine Ea ?_ _|refine Ga ?_|refine Da ?_ _));exact ua.out) hb);have Wb:=qa.mk (Pa (by repeat (first|(with_reducible first|exact HB.out|apply ia|apply ja|apply za|refine Aa ?_ Va.out)|exact HB.out)) hb);have nc:=qa.mk (Qb);have Nc:=qa.mk ((by rw [hg];exact (Na (by repeat (first|(with_reducible first|exact HB.out|apply ia|apply ja|apply za|refine Aa ?_ Va.out)|exact HB.out))):w.heap.size ≤ Ia));have qe:=qa.mk ((by rw [hg];exact (Na (by repeat (first|(with_reducible first|exact HB.out|apply ia|apply ja|apply za|refine Aa ?_ Va.out)|exact HB.out))):w.heap.size ≤ Ia));have lf:=qa.mk ((by rw [hg];exact Nat.ne_of_lt (Ac (g:=Fa) (o:=.cells #[.slice Ib Ra.length Gb,.int .i64 Ja,.int .i64 Ma,.int .i64 Oa,.slice qc Qa.length dc] 30 (0,0)) (by (with_reducible repeat (first|refine Ea ?_ _|refine Ga ?_|refine Da ?_ _));exact ua.out)):Fa ≠ Ia));have Hf:=qa.mk ((by rw [hg];exact Nat.ne_of_gt (Ac (g:=Fa) (o:=.cells #[.slice Ib Ra.length Gb,.int .i64 Ja,.int .i64 Ma,.int .i64 Oa,.slice qc Qa.length dc] 30 (0,0)) (by (with_reducible repeat (first|refine Ea ?_ _|refine Ga ?_|refine Da ?_ _));exact ua.out)):Ia ≠ Fa));clear ua;clear HB;have ua:=Pb;have HB:=Wb;have Ba:=nc;have Je:=Nc;have Vb:=qe;have Sa:=lf;have qb:=Hf;clear Pb Wb nc Nc qe lf Hf;clear hb Qb hg;have vS:=qb.out;have bS:=Sa.out;have cn:w8.cell? ⟨Ia,0,none⟩=some (.int .i64 jc):=(ga Ba.out 0).trans rfl;have bn:w8.cell? ⟨Ia,1,none⟩=some (.int .i64 Lb):=(ga Ba.out 1).trans rfl;have Zm:w8.cell? ⟨Ia,2,none⟩=some (.int .i64 Sb):=(ga Ba.out 2).trans rfl;have Ym:w8.cell? ⟨Ia,3,none⟩=some (.int .i64 Ub):=(ga Ba.out 3).trans rfl;have Xm:w8.cell? ⟨Ia,4,none⟩=some (.int .i64 Fc):=(ga Ba.out 4).trans rfl;have Nz:w8.cell? ⟨Ia,5,none⟩=some (.int .i64 Bd):=(ga Ba.out 5).trans rfl;have Mz:w8.cell? ⟨Ia,6,none⟩=some (.string Rd):=(ga Ba.out 6).trans rfl;have Om:=aa Ba.out 0;have Nm:=aa Ba.out 1;have Mm:=aa Ba.out 2;have Lm:=aa Ba.out 3;have Km:=aa Ba.out 4;have mz:=aa Ba.out 5;have kz:=aa Ba.out 6;have Qi:w8.cell? ⟨Fa,0,none⟩=some (.slice Ib Ra.length Gb):=(ga ua.out 0).trans rfl;have Oi:w8.cell? ⟨Fa,1,none⟩=some (.int .i64 Ja):=(ga ua.out 1).trans rfl;have Jq:w8.cell? ⟨Fa,2,none⟩=some (.int .i64 Ma):=(ga ua.out 2).trans rfl;have Iq:w8.cell? ⟨Fa,3,none⟩=some (.int .i64 Oa):=(ga ua.out 3).trans rfl;have Hq:w8.cell? ⟨Fa,4,none⟩=some (.slice qc Qa.length dc):=(ga ua.out 4).trans rfl;have Ki:=aa ua.out 0;have Ji:=aa ua.out 1;have sq:=aa ua.out 2;have rq:=aa ua.out 3;have qq:=aa ua.out 4)|((with_reducible refine Bb (f:=54) rfl ?_);refine jd (some 14) rfl rfl Try.func54 (by kernel_rfl) rfl #[.int .i64 Lb,.int .i64 0,.int .i64 (wrap64 (Oa - 1))] rfl (by (try simp only [List.map_toArray,List.map_cons,List.map_nil]);first|done|rfl|(simp only [List.length_drop,List.length_take];rfl)) ?_;(with_reducible refine (jb.calls Lb 0 (wrap64 (Oa - 1)) t103 _ A3.out).mono ?_);rintro e w' ⟨rfl,⟨nd,rfl⟩⟩;refine ⟨_,rfl,?_⟩)|((with_reducible refine Bb (f:=54) rfl ?_);refine jd (some 20) rfl rfl Try.func54 (by kernel_rfl) rfl #[.int .i64 Sb,.int .i64 0,.int .i64 (wrap64 (Oa - 1))] rfl (by (try simp only [List.map_toArray,List.map_cons,List.map_nil]);first|done|rfl|(simp only [List.length_drop,List.length_take];rfl)) ?_;(with_reducible refine (jb.calls Sb 0 (wrap64 (Oa - 1)) t104 _ A4.out).mono ?_);rintro e w' ⟨rfl,⟨nd,rfl⟩⟩;refine ⟨_,rfl,?_⟩)|((with_reducible refine Bb (f:=54) rfl ?_);refine jd (some 26) rfl rfl Try.func54 (by kernel_rfl) rfl #[.int .i64 Ub,.int .i64 0,.int .i64 (wrap64 (Oa - 1))] rfl (by (try simp only [List.map_toArray,List.map_cons,List.map_nil]);first|done|rfl|(simp only [List.length_drop,List.length_take];rfl)) ?_;(with_reducible refine (jb.calls Ub 0 (wrap64 (Oa - 1)) t105 _ A5.out).mono ?_);rintro e w' ⟨rfl,⟨nd,rfl⟩⟩;refine ⟨_,rfl,?_⟩))
 (try simp only [Act.put,List.setIfInBounds_toArray,List.set_cons_zero,List.set_cons_succ])
 go_cut [8] (fun v8 wc=>∃ (kq:Nat) (gA:Bool),v8 = .bool gA∧qa (Xa.j0 kq t103 t104 t105 gA Ra Ja Ma Oa Qa jc Lb Sb Ub Fc Bd Rd=some r)∧qa (kq ≤ k)∧qa (wc.heap[Fa]? = some (.cells #[(.slice Ib Ra.length Gb),.int .i64 Ja,.int .i64 Ma,.int .i64 Oa,(.slice qc Qa.length dc)] 30 (0,0)))∧qa (wc.heap[Ia]? = some (.cells #[.int .i64 jc,.int .i64 Lb,.int .i64 Sb,.int .i64 Ub,.int .i64 Fc,.int .i64 Bd,.string Rd] 70 (0,0)))∧qa (Below w.heap.size w wc))
 case first =>
  have H:=HC6.out
  clear HC6
  by_cases c12:t104=true
  ·subst c12
   have H1:(if t105=true then ((jb.f Bd 0 (wrap64 ((Ra.length:Int) - 1))).bind fun t106=>(Xa.j0 k t103 true t105 t106 Ra Ja Ma Oa Qa jc Lb Sb Ub Fc Bd Rd)) else (Xa.j0 k t103 true t105 false Ra Ja Ma Oa Qa jc Lb Sb Ub Fc Bd Rd))=some r:=by rw [if_pos rfl] at H;exact H
   clear H
   have H:=H1
   clear H1
   by_cases c13:t105=true
   ·subst c13
    have H1:((jb.f Bd 0 (wrap64 ((Ra.length:Int) - 1))).bind fun t106=>(Xa.j0 k t103 true true t106 Ra Ja Ma Oa Qa jc Lb Sb Ub Fc Bd Rd))=some r:=by rw [if_pos rfl] at H;exact H
    clear H
    have H:=H1
    clear H1
    replace H:=Option.bind_eq_some_iff.mp H
    obtain ⟨t106,HJ,H⟩:=H
    replace H:(Xa.j0 k t103 true true t106 Ra Ja Ma Oa Qa jc Lb Sb Ub Fc Bd Rd)=some r:=H
    have A14:=qa.mk HJ
    clear HJ
    have H':=qa.mk H
    clear H
    have QS:=qb.out
    have sS:=Sa.out
    have uk:w8.cell? ⟨Ia,0,none⟩=some (.int .i64 jc):=(ga Ba.out 0).trans rfl
    have qk:w8.cell? ⟨Ia,1,none⟩=some (.int .i64 Lb):=(ga Ba.out 1).trans rfl
    have jt:w8.cell? ⟨Ia,2,none⟩=some (.int .i64 Sb):=(ga Ba.out 2).trans rfl
    have ct:w8.cell? ⟨Ia,3,none⟩=some (.int .i64 Ub):=(ga Ba.out 3).trans rfl
    have bt:w8.cell? ⟨Ia,4,none⟩=some (.int .i64 Fc):=(ga Ba.out 4).trans rfl
    have Lz:w8.cell? ⟨Ia,5,none⟩=some (.int .i64 Bd):=(ga Ba.out 5).trans rfl
    have Kz:w8.cell? ⟨Ia,6,none⟩=some (.string Rd):=(ga Ba.out 6).trans rfl
    have fk:=aa Ba.out 0
    have ek:=aa Ba.out 1
    have Gs:=aa Ba.out 2
    have Fs:=aa Ba.out 3
    have Es:=aa Ba.out 4
    have jz:=aa Ba.out 5
    have iz:=aa Ba.out 6
    have Zs:w8.cell? ⟨Fa,0,none⟩=some (.slice Ib Ra.length Gb):=(ga ua.out 0).trans rfl
    have Ys:w8.cell? ⟨Fa,1,none⟩=some (.int .i64 Ja):=(ga ua.out 1).trans rfl
    have iw:w8.cell? ⟨Fa,2,none⟩=some (.int .i64 Ma):=(ga ua.out 2).trans rfl
    have ew:w8.cell? ⟨Fa,3,none⟩=some (.int .i64 Oa):=(ga ua.out 3).trans rfl
    have dw:w8.cell? ⟨Fa,4,none⟩=some (.slice qc Qa.length dc):=(ga ua.out 4).trans rfl
    have Ds:=aa ua.out 0
    have Cs:=aa ua.out 1
    have jv:=aa ua.out 2
    have cv:=aa ua.out 3
    have av:=aa ua.out 4
    go_wp2_with (first|(go_at_call 54;(with_reducible refine (jb.calls Bd 0 (wrap64 ((Ra.length:Int) - 1)) t106 _ A14.out).mono ?_);rintro e w' ⟨rfl,⟨nd,rfl⟩⟩))
    go_meet
    case rel=>exact ⟨_,(t106),(by first|rfl|(simp;done)|(simp [*];done)),H',⟨by first|omega|exact Nat.le_refl _⟩,⟨by (with_reducible repeat (first|refine Ea ?_ _|refine Ga ?_|refine Da ?_ _));exact ua.out⟩,⟨by (with_reducible repeat (first|refine Ea ?_ _|refine Ga ?_|refine Da ?_ _));exact Ba.out⟩,⟨by repeat (first|(with_reducible first|exact HB.out|apply ia|apply ja|apply za|refine Aa ?_ Va.out|refine Aa ?_ Vb.out)|exact HB.out)⟩⟩
   ·replace c13:=Bool.eq_false_iff.mpr c13
    subst c13
    have H1:(Xa.j0 k t103 true false false Ra Ja Ma Oa Qa jc Lb Sb Ub Fc Bd Rd)=some r:=by rw [if_neg (show ¬ (false=true) by decide)] at H;exact H
    clear H
    have H:=H1
    clear H1
    have H':=qa.mk H
    clear H
    go_wp2
    go_meet
    case rel=>exact ⟨_,(false),(by first|rfl|(simp;done)|(simp [*];done)),H',⟨by first|omega|exact Nat.le_refl _⟩,⟨by (with_reducible repeat (first|refine Ea ?_ _|refine Ga ?_|refine Da ?_ _));exact ua.out⟩,⟨by (with_reducible repeat (first|refine Ea ?_ _|refine Ga ?_|refine Da ?_ _));exact Ba.out⟩,⟨by repeat (first|(with_reducible first|exact HB.out|apply ia|apply ja|apply za|refine Aa ?_ Va.out|refine Aa ?_ Vb.out)|exact HB.out)⟩⟩
  ·replace c12:=Bool.eq_false_iff.mpr c12
   subst c12
   have H1:(if Sb=(-1) then (if t105=true then ((jb.f Bd 0 (wrap64 ((Ra.length:Int) - 1))).bind fun t107=>(Xa.j0 k t103 false t105 t107 Ra Ja Ma Oa Qa jc Lb Sb Ub Fc Bd Rd)) else (Xa.j0 k t103 false t105 false Ra Ja Ma Oa Qa jc Lb Sb Ub Fc Bd Rd)) else (Xa.j0 k t103 false t105 false Ra Ja Ma Oa Qa jc Lb Sb Ub Fc Bd Rd))=some r:=by rw [if_neg (show ¬ (false=true) by decide)] at H;exact H
   clear H
   have H:=H1
   clear H1
   by_cases c18:Sb=(-1)
   ·rw [if_pos c18] at H
    have sx:(Sb == (-1))=true:=beq_iff_eq.mpr c18
    have mJ:(Sb != (-1))=false:=bne_eq_false_iff_eq.mpr c18
    clear c18
    (first|rw [sx]|(simp only [Za,gb];rw [sx])|skip)
    by_cases c19:t105=true
    ·subst c19
     have H1:((jb.f Bd 0 (wrap64 ((Ra.length:Int) - 1))).bind fun t107=>(Xa.j0 k t103 false true t107 Ra Ja Ma Oa Qa jc Lb Sb Ub Fc Bd Rd))=some r:=by rw [if_pos rfl] at H;exact H
     clear H
     have H:=H1
     clear H1
     replace H:=Option.bind_eq_some_iff.mp H
     obtain ⟨t107,VX,H⟩:=H
     replace H:(Xa.j0 k t103 false true t107 Ra Ja Ma Oa Qa jc Lb Sb Ub Fc Bd Rd)=some r:=H
     have QJ:=qa.mk VX
     clear VX
     have H':=qa.mk H
     clear H
     have Xac:=qb.out
     have jac:=Sa.out
     have Xs:w8.cell? ⟨Ia,0,none⟩=some (.int .i64 jc):=(ga Ba.out 0).trans rfl
     have Ws:w8.cell? ⟨Ia,1,none⟩=some (.int .i64 Lb):=(ga Ba.out 1).trans rfl
     have Vs:w8.cell? ⟨Ia,2,none⟩=some (.int .i64 Sb):=(ga Ba.out 2).trans rfl
     have Us:w8.cell? ⟨Ia,3,none⟩=some (.int .i64 Ub):=(ga Ba.out 3).trans rfl
     have Ts:w8.cell? ⟨Ia,4,none⟩=some (.int .i64 Fc):=(ga Ba.out 4).trans rfl
     have NF:w8.cell? ⟨Ia,5,none⟩=some (.int .i64 Bd):=(ga Ba.out 5).trans rfl
     have MF:w8.cell? ⟨Ia,6,none⟩=some (.string Rd):=(ga Ba.out 6).trans rfl
     have Bs:=aa Ba.out 0
     have js:=aa Ba.out 1
     have Zr:=aa Ba.out 2
     have Yr:=aa Ba.out 3
     have Xr:=aa Ba.out 4
     have sE:=aa Ba.out 5
     have rE:=aa Ba.out 6
     have Mi:w8.cell? ⟨Fa,0,none⟩=some (.slice Ib Ra.length Gb):=(ga ua.out 0).trans rfl
     have Li:w8.cell? ⟨Fa,1,none⟩=some (.int .i64 Ja):=(ga ua.out 1).trans rfl
     have Tm:w8.cell? ⟨Fa,2,none⟩=some (.int .i64 Ma):=(ga ua.out 2).trans rfl
     have Sm:w8.cell? ⟨Fa,3,none⟩=some (.int .i64 Oa):=(ga ua.out 3).trans rfl
     have Rm:w8.cell? ⟨Fa,4,none⟩=some (.slice qc Qa.length dc):=(ga ua.out 4).trans rfl
     have Ii:=aa ua.out 0
     have Hi:=aa ua.out 1
     have Fm:=aa ua.out 2
     have Em:=aa ua.out 3
     have Dm:=aa ua.out 4
     go_wp2_with (first|(go_at_call 54;(with_reducible refine (jb.calls Bd 0 (wrap64 ((Ra.length:Int) - 1)) t107 _ QJ.out).mono ?_);rintro e w' ⟨rfl,⟨nd,rfl⟩⟩))
     go_meet
     case rel=>exact ⟨_,(t107),(by first|rfl|(simp;done)|(simp [*];done)),H',⟨by first|omega|exact Nat.le_refl _⟩,⟨by (with_reducible repeat (first|refine Ea ?_ _|refine Ga ?_|refine Da ?_ _));exact ua.out⟩,⟨by (with_reducible repeat (first|refine Ea ?_ _|refine Ga ?_|refine Da ?_ _));exact Ba.out⟩,⟨by repeat (first|(with_reducible first|exact HB.out|apply ia|apply ja|apply za|refine Aa ?_ Va.out|refine Aa ?_ Vb.out)|exact HB.out)⟩⟩
    ·replace c19:=Bool.eq_false_iff.mpr c19
     subst c19
     have H1:(Xa.j0 k t103 false false false Ra Ja Ma Oa Qa jc Lb Sb Ub Fc Bd Rd)=some r:=by rw [if_neg (show ¬ (false=true) by decide)] at H;exact H
     clear H
     have H:=H1
     clear H1
     have H':=qa.mk H
     clear H
     have NS:=qb.out
     have pS:=Sa.out
     have zq:w8.cell? ⟨Ia,0,none⟩=some (.int .i64 jc):=(ga Ba.out 0).trans rfl
     have yq:w8.cell? ⟨Ia,1,none⟩=some (.int .i64 Lb):=(ga Ba.out 1).trans rfl
     have xq:w8.cell? ⟨Ia,2,none⟩=some (.int .i64 Sb):=(ga Ba.out 2).trans rfl
     have wq:w8.cell? ⟨Ia,3,none⟩=some (.int .i64 Ub):=(ga Ba.out 3).trans rfl
     have vq:w8.cell? ⟨Ia,4,none⟩=some (.int .i64 Fc):=(ga Ba.out 4).trans rfl
     have LF:w8.cell? ⟨Ia,5,none⟩=some (.int .i64 Bd):=(ga Ba.out 5).trans rfl
     have KF:w8.cell? ⟨Ia,6,none⟩=some (.string Rd):=(ga Ba.out 6).trans rfl
     have gq:=aa Ba.out 0
     have fq:=aa Ba.out 1
     have cq:=aa Ba.out 2
     have bq:=aa Ba.out 3
     have aq:=aa Ba.out 4
     have qE:=aa Ba.out 5
     have pE:=aa Ba.out 6
     go_wp2
     go_meet
     case rel=>exact ⟨_,(false),(by first|rfl|(simp;done)|(simp [*];done)),H',⟨by first|omega|exact Nat.le_refl _⟩,⟨by (with_reducible repeat (first|refine Ea ?_ _|refine Ga ?_|refine Da ?_ _));exact ua.out⟩,⟨by (with_reducible repeat (first|refine Ea ?_ _|refine Ga ?_|refine Da ?_ _));exact Ba.out⟩,⟨by repeat (first|(with_reducible first|exact HB.out|apply ia|apply ja|apply za|refine Aa ?_ Va.out|refine Aa ?_ Vb.out)|exact HB.out)⟩⟩
   ·rw [if_neg c18] at H
    have sx:(Sb == (-1))=false:=beq_eq_false_iff_ne.mpr c18
    have mJ:(Sb != (-1))=true:=bne_iff_ne.mpr c18
    (first|rw [sx]|(simp only [Za,gb];rw [sx])|skip)
    have H':=qa.mk H
    clear H
    have Wac:=qb.out
    have iac:=Sa.out
    have Zv:w8.cell? ⟨Ia,0,none⟩=some (.int .i64 jc):=(ga Ba.out 0).trans rfl
    have Yv:w8.cell? ⟨Ia,1,none⟩=some (.int .i64 Lb):=(ga Ba.out 1).trans rfl
    have Xv:w8.cell? ⟨Ia,2,none⟩=some (.int .i64 Sb):=(ga Ba.out 2).trans rfl
    have Wv:w8.cell? ⟨Ia,3,none⟩=some (.int .i64 Ub):=(ga Ba.out 3).trans rfl
    have Vv:w8.cell? ⟨Ia,4,none⟩=some (.int .i64 Fc):=(ga Ba.out 4).trans rfl
    have JF:w8.cell? ⟨Ia,5,none⟩=some (.int .i64 Bd):=(ga Ba.out 5).trans rfl
    have GF:w8.cell? ⟨Ia,6,none⟩=some (.string Rd):=(ga Ba.out 6).trans rfl
    have Xu:=aa Ba.out 0
    have Wu:=aa Ba.out 1
    have Vu:=aa Ba.out 2
    have Uu:=aa Ba.out 3
    have Tu:=aa Ba.out 4
    have oE:=aa Ba.out 5
    have nE:=aa Ba.out 6
    go_wp2
    go_meet
    case rel=>exact ⟨_,(false),(by first|rfl|(simp;done)|(simp [*];done)),H',⟨by first|omega|exact Nat.le_refl _⟩,⟨by (with_reducible repeat (first|refine Ea ?_ _|refine Ga ?_|refine Da ?_ _));exact ua.out⟩,⟨by (with_reducible repeat (first|refine Ea ?_ _|refine Ga ?_|refine Da ?_ _));exact Ba.out⟩,⟨by repeat (first|(with_reducible first|exact HB.out|apply ia|apply ja|apply za|refine Aa ?_ Va.out|refine Aa ?_ Vb.out)|exact HB.out)⟩⟩
 case rest =>
  clear HC6
  try clear c1
  try clear c2
  try clear p2
  try clear c5
  try clear p6
  try clear c9
  try clear c11
  try clear c12
  try clear c13
  try clear c15
  try clear c18
  try clear sx
  try clear mJ
  try clear c19
  try clear c21
  try clear c24
  try clear c26
  try clear cn
  try clear bn
  try clear Zm
  try clear Ym
  try clear Xm
  try clear Nz
  try clear Mz
  try clear Qi
  try clear Oi
  try clear Jq
  try clear Iq
  try clear Hq
  try clear uk
  try clear qk
  try clear jt
  try clear ct
  try clear bt
  try clear Lz
  try clear Kz
  try clear Zs
  try clear Ys
  try clear iw
  try clear ew
  try clear dw
  try clear Xs
  try clear Ws
  try clear Vs
  try clear Us
  try clear Ts
  try clear NF
  try clear MF
  try clear Mi
  try clear Li
  try clear Tm
  try clear Sm
  try clear Rm
  try clear zq
  try clear yq
  try clear xq
  try clear wq
  try clear vq
  try clear LF
  try clear KF
  try clear Zv
  try clear Yv
  try clear Xv
  try clear Wv
  try clear Vv
  try clear JF
  try clear GF
  try clear Om
  try clear Nm
  try clear Mm
  try clear Lm
  try clear Km
  try clear mz
  try clear kz
  try clear Ki
  try clear Ji
  try clear sq
  try clear rq
  try clear qq
  try clear fk
  try clear ek
  try clear Gs
  try clear Fs
  try clear Es
  try clear jz
  try clear iz
  try clear Ds
  try clear Cs
  try clear jv
  try clear cv
  try clear av
  try clear Bs
  try clear js
  try clear Zr
  try clear Yr
  try clear Xr
  try clear sE
  try clear rE
  try clear Ii
  try clear Hi
  try clear Fm
  try clear Em
  try clear Dm
  try clear gq
  try clear fq
  try clear cq
  try clear bq
  try clear aq
  try clear qE
  try clear pE
  try clear Xu
  try clear Wu
  try clear Vu
  try clear Uu
  try clear Tu
  try clear oE
  try clear nE
  obtain ⟨kq,gA,rfl,HA,zX,ua,Ba,HB⟩:=hcut
  cases kq with
  | zero=>exact absurd HA.out (by simp [Xa.j0])
  | succ kj5 =>
   have H:=HA.out
   clear HA
   simp only [Xa.j0] at H
   have sR:=qa.mk H
   clear H
   go_upto_region 5 with (fail)
   go_cut [62] (fun v62 wc=>∃ (kq:Nat) (iy:Bool),v62 = .bool iy∧qa (Xa.j1 kq t103 t104 t105 gA iy Ra Ja Ma Oa Qa jc Lb Sb Ub Fc Bd Rd=some r)∧qa (kq ≤ kj5)∧qa (wc.heap[Fa]? = some (.cells #[(.slice Ib Ra.length Gb),.int .i64 Ja,.int .i64 Ma,.int .i64 Oa,(.slice qc Qa.length dc)] 30 (0,0)))∧qa (wc.heap[Ia]? = some (.cells #[.int .i64 jc,.int .i64 Lb,.int .i64 Sb,.int .i64 Ub,.int .i64 Fc,.int .i64 Bd,.string Rd] 70 (0,0)))∧qa (Below w.heap.size w wc))
   case first =>
    have H:=sR.out
    clear sR
    by_cases c29:jc=2
    ·rw [if_pos c29] at H
     have qx:(jc == 2)=true:=beq_iff_eq.mpr c29
     have vO:(jc != 2)=false:=bne_eq_false_iff_eq.mpr c29
     clear c29
     (first|rw [qx]|(simp only [Za,gb];rw [qx])|skip)
     by_cases c30:jc=4
     ·rw [if_pos c30] at H
      have fG:(jc == 4)=true:=beq_iff_eq.mpr c30
      have uO:(jc != 4)=false:=bne_eq_false_iff_eq.mpr c30
      clear c30
      have H':=qa.mk H
      clear H
      have LS:=qb.out
      have nS:=Sa.out
      have Gz:wc.cell? ⟨Ia,0,none⟩=some (.int .i64 jc):=(ga Ba.out 0).trans rfl
      have Fz:wc.cell? ⟨Ia,1,none⟩=some (.int .i64 Lb):=(ga Ba.out 1).trans rfl
      have Ez:wc.cell? ⟨Ia,2,none⟩=some (.int .i64 Sb):=(ga Ba.out 2).trans rfl
      have Dz:wc.cell? ⟨Ia,3,none⟩=some (.int .i64 Ub):=(ga Ba.out 3).trans rfl
      have Cz:wc.cell? ⟨Ia,4,none⟩=some (.int .i64 Fc):=(ga Ba.out 4).trans rfl
      have aN:wc.cell? ⟨Ia,5,none⟩=some (.int .i64 Bd):=(ga Ba.out 5).trans rfl
      have ZM:wc.cell? ⟨Ia,6,none⟩=some (.string Rd):=(ga Ba.out 6).trans rfl
      have dz:=aa Ba.out 0
      have cz:=aa Ba.out 1
      have bz:=aa Ba.out 2
      have az:=aa Ba.out 3
      have Zy:=aa Ba.out 4
      have wL:=aa Ba.out 5
      have vL:=aa Ba.out 6
      go_wp2
      go_meet
      case rel=>exact ⟨_,(false),(by first|rfl|(simp;done)|(simp [*];done)),H',⟨by have:=zX.out;first|omega|exact Nat.le_refl _⟩,⟨by (with_reducible repeat (first|refine Ea ?_ _|refine Ga ?_|refine Da ?_ _));exact ua.out⟩,⟨by (with_reducible repeat (first|refine Ea ?_ _|refine Ga ?_|refine Da ?_ _));exact Ba.out⟩,⟨by repeat (first|(with_reducible first|exact HB.out|apply ia|apply ja|apply za|refine Aa ?_ Va.out|refine Aa ?_ Vb.out)|exact HB.out)⟩⟩
     ·rw [if_neg c30] at H
      have fG:(jc == 4)=false:=beq_eq_false_iff_ne.mpr c30
      have uO:(jc != 4)=true:=bne_iff_ne.mpr c30
      have H':=qa.mk H
      clear H
      have Tac:=qb.out
      have eac:=Sa.out
      have FF:wc.cell? ⟨Ia,0,none⟩=some (.int .i64 jc):=(ga Ba.out 0).trans rfl
      have EF:wc.cell? ⟨Ia,1,none⟩=some (.int .i64 Lb):=(ga Ba.out 1).trans rfl
      have DF:wc.cell? ⟨Ia,2,none⟩=some (.int .i64 Sb):=(ga Ba.out 2).trans rfl
      have CF:wc.cell? ⟨Ia,3,none⟩=some (.int .i64 Ub):=(ga Ba.out 3).trans rfl
      have BF:wc.cell? ⟨Ia,4,none⟩=some (.int .i64 Fc):=(ga Ba.out 4).trans rfl
      have AF:wc.cell? ⟨Ia,5,none⟩=some (.int .i64 Bd):=(ga Ba.out 5).trans rfl
      have zF:wc.cell? ⟨Ia,6,none⟩=some (.string Rd):=(ga Ba.out 6).trans rfl
      have mE:=aa Ba.out 0
      have lE:=aa Ba.out 1
      have kE:=aa Ba.out 2
      have jE:=aa Ba.out 3
      have iE:=aa Ba.out 4
      have gE:=aa Ba.out 5
      have fE:=aa Ba.out 6
      go_wp2
      go_meet
      case rel=>exact ⟨_,((Fc != 0)),(by first|rfl|(simp;done)|(simp [*];done)),H',⟨by have:=zX.out;first|omega|exact Nat.le_refl _⟩,⟨by (with_reducible repeat (first|refine Ea ?_ _|refine Ga ?_|refine Da ?_ _));exact ua.out⟩,⟨by (with_reducible repeat (first|refine Ea ?_ _|refine Ga ?_|refine Da ?_ _));exact Ba.out⟩,⟨by repeat (first|(with_reducible first|exact HB.out|apply ia|apply ja|apply za|refine Aa ?_ Va.out|refine Aa ?_ Vb.out)|exact HB.out)⟩⟩
    ·rw [if_neg c29] at H
     have qx:(jc == 2)=false:=beq_eq_false_iff_ne.mpr c29
     have vO:(jc != 2)=true:=bne_iff_ne.mpr c29
     (first|rw [qx]|(simp only [Za,gb];rw [qx])|skip)
     by_cases c35:Rd.toList=([]:List UInt8)
     ·rw [if_pos c35] at H
      have tO:(Rd.toList == ([]:List UInt8))=true:=beq_iff_eq.mpr c35
      have sO:(Rd.toList != ([]:List UInt8))=false:=bne_eq_false_iff_eq.mpr c35
      clear c35
      by_cases c36:jc=4
      ·rw [if_pos c36] at H
       have rO:(jc == 4)=true:=beq_iff_eq.mpr c36
       have qO:(jc != 4)=false:=bne_eq_false_iff_eq.mpr c36
       clear c36
       have H':=qa.mk H
       clear H
       have DS:=qb.out
       have jS:=Sa.out
       have Bz:wc.cell? ⟨Ia,0,none⟩=some (.int .i64 jc):=(ga Ba.out 0).trans rfl
       have Az:wc.cell? ⟨Ia,1,none⟩=some (.int .i64 Lb):=(ga Ba.out 1).trans rfl
       have zz:wc.cell? ⟨Ia,2,none⟩=some (.int .i64 Sb):=(ga Ba.out 2).trans rfl
       have yz:wc.cell? ⟨Ia,3,none⟩=some (.int .i64 Ub):=(ga Ba.out 3).trans rfl
       have xz:wc.cell? ⟨Ia,4,none⟩=some (.int .i64 Fc):=(ga Ba.out 4).trans rfl
       have sF:wc.cell? ⟨Ia,5,none⟩=some (.int .i64 Bd):=(ga Ba.out 5).trans rfl
       have rF:wc.cell? ⟨Ia,6,none⟩=some (.string Rd):=(ga Ba.out 6).trans rfl
       have Yy:=aa Ba.out 0
       have Xy:=aa Ba.out 1
       have Wy:=aa Ba.out 2
       have Vy:=aa Ba.out 3
       have Uy:=aa Ba.out 4
       have XD:=aa Ba.out 5
       have WD:=aa Ba.out 6
       go_wp2
       go_meet
       case rel=>exact ⟨_,(false),(by first|rfl|(simp;done)|(simp [*];done)),H',⟨by have:=zX.out;first|omega|exact Nat.le_refl _⟩,⟨by (with_reducible repeat (first|refine Ea ?_ _|refine Ga ?_|refine Da ?_ _));exact ua.out⟩,⟨by (with_reducible repeat (first|refine Ea ?_ _|refine Ga ?_|refine Da ?_ _));exact Ba.out⟩,⟨by repeat (first|(with_reducible first|exact HB.out|apply ia|apply ja|apply za|refine Aa ?_ Va.out|refine Aa ?_ Vb.out)|exact HB.out)⟩⟩
      ·rw [if_neg c36] at H
       have rO:(jc == 4)=false:=beq_eq_false_iff_ne.mpr c36
       have qO:(jc != 4)=true:=bne_iff_ne.mpr c36
       have H':=qa.mk H
       clear H
       have bO:=qb.out
       have WN:=Sa.out
       have Nv:wc.cell? ⟨Ia,0,none⟩=some (.int .i64 jc):=(ga Ba.out 0).trans rfl
       have Mv:wc.cell? ⟨Ia,1,none⟩=some (.int .i64 Lb):=(ga Ba.out 1).trans rfl
       have Lv:wc.cell? ⟨Ia,2,none⟩=some (.int .i64 Sb):=(ga Ba.out 2).trans rfl
       have Kv:wc.cell? ⟨Ia,3,none⟩=some (.int .i64 Ub):=(ga Ba.out 3).trans rfl
       have Jv:wc.cell? ⟨Ia,4,none⟩=some (.int .i64 Fc):=(ga Ba.out 4).trans rfl
       have TM:wc.cell? ⟨Ia,5,none⟩=some (.int .i64 Bd):=(ga Ba.out 5).trans rfl
       have SM:wc.cell? ⟨Ia,6,none⟩=some (.string Rd):=(ga Ba.out 6).trans rfl
       have Lu:=aa Ba.out 0
       have Ku:=aa Ba.out 1
       have Ju:=aa Ba.out 2
       have Iu:=aa Ba.out 3
       have Hu:=aa Ba.out 4
       have pL:=aa Ba.out 5
       have oL:=aa Ba.out 6
       go_wp2
       go_meet
       case rel=>exact ⟨_,((Fc != 0)),(by first|rfl|(simp;done)|(simp [*];done)),H',⟨by have:=zX.out;first|omega|exact Nat.le_refl _⟩,⟨by (with_reducible repeat (first|refine Ea ?_ _|refine Ga ?_|refine Da ?_ _));exact ua.out⟩,⟨by (with_reducible repeat (first|refine Ea ?_ _|refine Ga ?_|refine Da ?_ _));exact Ba.out⟩,⟨by repeat (first|(with_reducible first|exact HB.out|apply ia|apply ja|apply za|refine Aa ?_ Va.out|refine Aa ?_ Vb.out)|exact HB.out)⟩⟩
     ·rw [if_neg c35] at H
      have tO:(Rd.toList == ([]:List UInt8))=false:=beq_eq_false_iff_ne.mpr c35
      have sO:(Rd.toList != ([]:List UInt8))=true:=bne_iff_ne.mpr c35
      have H':=qa.mk H
      clear H
      have CS:=qb.out
      have iS:=Sa.out
      have lF:wc.cell? ⟨Ia,0,none⟩=some (.int .i64 jc):=(ga Ba.out 0).trans rfl
      have kF:wc.cell? ⟨Ia,1,none⟩=some (.int .i64 Lb):=(ga Ba.out 1).trans rfl
      have jF:wc.cell? ⟨Ia,2,none⟩=some (.int .i64 Sb):=(ga Ba.out 2).trans rfl
      have iF:wc.cell? ⟨Ia,3,none⟩=some (.int .i64 Ub):=(ga Ba.out 3).trans rfl
      have gF:wc.cell? ⟨Ia,4,none⟩=some (.int .i64 Fc):=(ga Ba.out 4).trans rfl
      have OM:wc.cell? ⟨Ia,5,none⟩=some (.int .i64 Bd):=(ga Ba.out 5).trans rfl
      have NM:wc.cell? ⟨Ia,6,none⟩=some (.string Rd):=(ga Ba.out 6).trans rfl
      have QD:=aa Ba.out 0
      have PD:=aa Ba.out 1
      have OD:=aa Ba.out 2
      have ND:=aa Ba.out 3
      have MD:=aa Ba.out 4
      have jL:=aa Ba.out 5
      have iL:=aa Ba.out 6
      go_wp2
      go_meet
      case rel=>exact ⟨_,(true),(by first|rfl|(simp;done)|(simp [*];done)),H',⟨by have:=zX.out;first|omega|exact Nat.le_refl _⟩,⟨by (with_reducible repeat (first|refine Ea ?_ _|refine Ga ?_|refine Da ?_ _));exact ua.out⟩,⟨by (with_reducible repeat (first|refine Ea ?_ _|refine Ga ?_|refine Da ?_ _));exact Ba.out⟩,⟨by repeat (first|(with_reducible first|exact HB.out|apply ia|apply ja|apply za|refine Aa ?_ Va.out|refine Aa ?_ Vb.out)|exact HB.out)⟩⟩
   case rest =>
    clear sR
    try clear c1
    try clear c2
    try clear p2
    try clear c3
    try clear c4
    try clear c5
    try clear p6
    try clear c9
    try clear c11
    try clear c12
    try clear c13
    try clear c15
    try clear c18
    try clear sx
    try clear mJ
    try clear c19
    try clear c21
    try clear c24
    try clear c26
    try clear c29
    try clear qx
    try clear vO
    try clear c30
    try clear fG
    try clear uO
    try clear c31
    try clear c33
    try clear c35
    try clear tO
    try clear sO
    try clear c36
    try clear rO
    try clear qO
    try clear c37
    try clear c39
    try clear c41
    try clear cn
    try clear bn
    try clear Zm
    try clear Ym
    try clear Xm
    try clear Nz
    try clear Mz
    try clear Qi
    try clear Oi
    try clear Jq
    try clear Iq
    try clear Hq
    try clear uk
    try clear qk
    try clear jt
    try clear ct
    try clear bt
    try clear Lz
    try clear Kz
    try clear Zs
    try clear Ys
    try clear iw
    try clear ew
    try clear dw
    try clear Xs
    try clear Ws
    try clear Vs
    try clear Us
    try clear Ts
    try clear NF
    try clear MF
    try clear Mi
    try clear Li
    try clear Tm
    try clear Sm
    try clear Rm
    try clear zq
    try clear yq
    try clear xq
    try clear wq
    try clear vq
    try clear LF
    try clear KF
    try clear Zv
    try clear Yv
    try clear Xv
    try clear Wv
    try clear Vv
    try clear JF
    try clear GF
    try clear Gz
    try clear Fz
    try clear Ez
    try clear Dz
    try clear Cz
    try clear aN
    try clear ZM
    try clear FF
    try clear EF
    try clear DF
    try clear CF
    try clear BF
    try clear AF
    try clear zF
    try clear Bz
    try clear Az
    try clear zz
    try clear yz
    try clear xz
    try clear sF
    try clear rF
    try clear Nv
    try clear Mv
    try clear Lv
    try clear Kv
    try clear Jv
    try clear TM
    try clear SM
    try clear lF
    try clear kF
    try clear jF
    try clear iF
    try clear gF
    try clear OM
    try clear NM
    try clear Om
    try clear Nm
    try clear Mm
    try clear Lm
    try clear Km
    try clear mz
    try clear kz
    try clear Ki
    try clear Ji
    try clear sq
    try clear rq
    try clear qq
    try clear fk
    try clear ek
    try clear Gs
    try clear Fs
    try clear Es
    try clear jz
    try clear iz
    try clear Ds
    try clear Cs
    try clear jv
    try clear cv
    try clear av
    try clear Bs
    try clear js
    try clear Zr
    try clear Yr
    try clear Xr
    try clear sE
    try clear rE
    try clear Ii
    try clear Hi
    try clear Fm
    try clear Em
    try clear Dm
    try clear gq
    try clear fq
    try clear cq
    try clear bq
    try clear aq
    try clear qE
    try clear pE
    try clear Xu
    try clear Wu
    try clear Vu
    try clear Uu
    try clear Tu
    try clear oE
    try clear nE
    try clear dz
    try clear cz
    try clear bz
    try clear az
    try clear Zy
    try clear wL
    try clear vL
    try clear mE
    try clear lE
    try clear kE
    try clear jE
    try clear iE
    try clear gE
    try clear fE
    try clear Yy
    try clear Xy
    try clear Wy
    try clear Vy
    try clear Uy
    try clear XD
    try clear WD
    try clear Lu
    try clear Ku
    try clear Ju
    try clear Iu
    try clear Hu
    try clear pL
    try clear oL
    try clear QD
    try clear PD
    try clear OD
    try clear ND
    try clear MD
    try clear jL
    try clear iL
    try clear p2
    try clear p6
    obtain ⟨kq,iy,rfl,HA,xaf,ua,Ba,HB⟩:=hcut
    cases kq with
    | zero=>exact absurd HA.out (by simp [Xa.j1])
    | succ kj27 =>
     have H:=HA.out
     clear HA
     simp only [Xa.j1] at H
     by_cases c43:iy=true
     ·subst c43
      have H1:(some false)=some r:=by rw [if_pos rfl] at H;exact H
      clear H
      have H:=H1
      clear H1
      obtain rfl:=Option.some.inj H
      go_wp2
      go_ret
      exact ⟨by first|rfl|(simp [La,Ka] <;> rfl)|(simp [*,La,Ka] <;> rfl),by repeat (first|(with_reducible first|exact HB.out|apply ia|apply ja|apply za|refine Aa ?_ Va.out|refine Aa ?_ Vb.out)|exact HB.out)⟩
     ·replace c43:=Bool.eq_false_iff.mpr c43
      subst c43
      have H1:(if jc=0 then (if t103=true then (if Sb=0 then (some (Ub == 0)) else (some false)) else (some false)) else (if jc=1 then (if t103=true then (if t104=true then (if Ub=0 then (some (Bd == 0)) else (some false)) else (some false)) else (some false)) else (if jc=2 then (if t103=true then (if t104=true then (if t105=true then (if Bd=0 then ((Tc.f kj27 (([(⟨#[61,61]⟩:ByteArray),(⟨#[60]⟩:ByteArray),(⟨#[38]⟩:ByteArray),(⟨#[43]⟩:ByteArray),(⟨#[45]⟩:ByteArray),(⟨#[42]⟩:ByteArray)]:List ByteArray)) Rd).bind fun t111=>(some t111)) else (some false)) else (some false)) else (some false)) else (some false)) else (if jc=3 then (if t103=true then (some gA) else (some false)) else (if jc=4 then (if Lb=0 then (if gA=true then ((jb.f Fc 0 (wrap64 (Oa - 1))).bind fun t112=>(some t112)) else (some false)) else (some false)) else (if jc=5 then (if t103=true then (if Sb=0 then (if Ub=0 then (some (Bd == 0)) else (some false)) else (some false)) else (some false)) else (if jc=6 then (if Lb=0 then (if t104=true then (if Ub=0 then (some (Bd == 0)) else (some false)) else (some false)) else (some false)) else (some false))))))))=some r:=by rw [if_neg (show ¬ (false=true) by decide)] at H;exact H
      clear H
      have H:=H1
      clear H1
      by_cases c44:jc=0
      ·rw [if_pos c44] at H
       have iJ:(jc == 0)=true:=beq_iff_eq.mpr c44
       have gJ:(jc != 0)=false:=bne_eq_false_iff_eq.mpr c44
       clear c44
       by_cases c45:t103=true
       ·subst c45
        have H1:(if Sb=0 then (some (Ub == 0)) else (some false))=some r:=by rw [if_pos rfl] at H;exact H
        clear H
        have H:=H1
        clear H1
        by_cases c46:Sb=0
        ·rw [if_pos c46] at H
         have eG:(Sb == 0)=true:=beq_iff_eq.mpr c46
         have fJ:(Sb != 0)=false:=bne_eq_false_iff_eq.mpr c46
         clear c46
         obtain rfl:=Option.some.inj H
         have ZN:=qb.out
         have VN:=Sa.out
         have Js:wc.cell? ⟨Ia,0,none⟩=some (.int .i64 jc):=(ga Ba.out 0).trans rfl
         have Hs:wc.cell? ⟨Ia,1,none⟩=some (.int .i64 Lb):=(ga Ba.out 1).trans rfl
         have wz:wc.cell? ⟨Ia,2,none⟩=some (.int .i64 Sb):=(ga Ba.out 2).trans rfl
         have vz:wc.cell? ⟨Ia,3,none⟩=some (.int .i64 Ub):=(ga Ba.out 3).trans rfl
         have uz:wc.cell? ⟨Ia,4,none⟩=some (.int .i64 Fc):=(ga Ba.out 4).trans rfl
         have CM:wc.cell? ⟨Ia,5,none⟩=some (.int .i64 Bd):=(ga Ba.out 5).trans rfl
         have BM:wc.cell? ⟨Ia,6,none⟩=some (.string Rd):=(ga Ba.out 6).trans rfl
         have Nr:=aa Ba.out 0
         have Mr:=aa Ba.out 1
         have Ty:=aa Ba.out 2
         have Sy:=aa Ba.out 3
         have Ry:=aa Ba.out 4
         have VK:=aa Ba.out 5
         have UK:=aa Ba.out 6
         go_wp2
         go_ret
         exact ⟨by first|rfl|(simp [La,Ka] <;> rfl)|(simp [*,La,Ka] <;> rfl),by repeat (first|(with_reducible first|exact HB.out|apply ia|apply ja|apply za|refine Aa ?_ Va.out|refine Aa ?_ Vb.out)|exact HB.out)⟩
        ·rw [if_neg c46] at H
         have eG:(Sb == 0)=false:=beq_eq_false_iff_ne.mpr c46
         have fJ:(Sb != 0)=true:=bne_iff_ne.mpr c46
         obtain rfl:=Option.some.inj H
         have Nac:=qb.out
         have Yab:=Sa.out
         have R7:wc.cell? ⟨Ia,0,none⟩=some (.int .i64 jc):=(ga Ba.out 0).trans rfl
         have Q7:wc.cell? ⟨Ia,1,none⟩=some (.int .i64 Lb):=(ga Ba.out 1).trans rfl
         have P7:wc.cell? ⟨Ia,2,none⟩=some (.int .i64 Sb):=(ga Ba.out 2).trans rfl
         have O7:wc.cell? ⟨Ia,3,none⟩=some (.int .i64 Ub):=(ga Ba.out 3).trans rfl
         have N7:wc.cell? ⟨Ia,4,none⟩=some (.int .i64 Fc):=(ga Ba.out 4).trans rfl
         have M7:wc.cell? ⟨Ia,5,none⟩=some (.int .i64 Bd):=(ga Ba.out 5).trans rfl
         have L7:wc.cell? ⟨Ia,6,none⟩=some (.string Rd):=(ga Ba.out 6).trans rfl
         have O1:=aa Ba.out 0
         have N1:=aa Ba.out 1
         have K1:=aa Ba.out 2
         have J1:=aa Ba.out 3
         have I1:=aa Ba.out 4
         have G1:=aa Ba.out 5
         have E1:=aa Ba.out 6
         go_wp2
         go_ret
         exact ⟨by first|rfl|(simp [La,Ka] <;> rfl)|(simp [*,La,Ka] <;> rfl),by repeat (first|(with_reducible first|exact HB.out|apply ia|apply ja|apply za|refine Aa ?_ Va.out|refine Aa ?_ Vb.out)|exact HB.out)⟩
       ·replace c45:=Bool.eq_false_iff.mpr c45
        subst c45
        have H1:(some false)=some r:=by rw [if_neg (show ¬ (false=true) by decide)] at H;exact H
        clear H
        have H:=H1
        clear H1
        obtain rfl:=Option.some.inj H
        have eI:=qb.out
        have bI:=Sa.out
        have rz:wc.cell? ⟨Ia,0,none⟩=some (.int .i64 jc):=(ga Ba.out 0).trans rfl
        have qz:wc.cell? ⟨Ia,1,none⟩=some (.int .i64 Lb):=(ga Ba.out 1).trans rfl
        have bF:wc.cell? ⟨Ia,2,none⟩=some (.int .i64 Sb):=(ga Ba.out 2).trans rfl
        have ZE:wc.cell? ⟨Ia,3,none⟩=some (.int .i64 Ub):=(ga Ba.out 3).trans rfl
        have YE:wc.cell? ⟨Ia,4,none⟩=some (.int .i64 Fc):=(ga Ba.out 4).trans rfl
        have F7:wc.cell? ⟨Ia,5,none⟩=some (.int .i64 Bd):=(ga Ba.out 5).trans rfl
        have E7:wc.cell? ⟨Ia,6,none⟩=some (.string Rd):=(ga Ba.out 6).trans rfl
        have Qy:=aa Ba.out 0
        have Py:=aa Ba.out 1
        have GD:=aa Ba.out 2
        have FD:=aa Ba.out 3
        have ED:=aa Ba.out 4
        have X0:=aa Ba.out 5
        have W0:=aa Ba.out 6
        go_wp2
        go_ret
        exact ⟨by first|rfl|(simp [La,Ka] <;> rfl)|(simp [*,La,Ka] <;> rfl),by repeat (first|(with_reducible first|exact HB.out|apply ia|apply ja|apply za|refine Aa ?_ Va.out|refine Aa ?_ Vb.out)|exact HB.out)⟩
      ·rw [if_neg c44] at H
       have iJ:(jc == 0)=false:=beq_eq_false_iff_ne.mpr c44
       have gJ:(jc != 0)=true:=bne_iff_ne.mpr c44
       by_cases c53:jc=1
       ·rw [if_pos c53] at H
        have cX:(jc == 1)=true:=beq_iff_eq.mpr c53
        have bX:(jc != 1)=false:=bne_eq_false_iff_eq.mpr c53
        clear c53
        by_cases c54:t103=true
        ·subst c54
         have H1:(if t104=true then (if Ub=0 then (some (Bd == 0)) else (some false)) else (some false))=some r:=by rw [if_pos rfl] at H;exact H
         clear H
         have H:=H1
         clear H1
         by_cases c55:t104=true
         ·subst c55
          have H1:(if Ub=0 then (some (Bd == 0)) else (some false))=some r:=by rw [if_pos rfl] at H;exact H
          clear H
          have H:=H1
          clear H1
          by_cases c56:Ub=0
          ·rw [if_pos c56] at H
           have aX:(Ub == 0)=true:=beq_iff_eq.mpr c56
           have ZW:(Ub != 0)=false:=bne_eq_false_iff_eq.mpr c56
           clear c56
           obtain rfl:=Option.some.inj H
           have Iac:=qb.out
           have Tab:=Sa.out
           have pM:wc.cell? ⟨Ia,0,none⟩=some (.int .i64 jc):=(ga Ba.out 0).trans rfl
           have oM:wc.cell? ⟨Ia,1,none⟩=some (.int .i64 Lb):=(ga Ba.out 1).trans rfl
           have nM:wc.cell? ⟨Ia,2,none⟩=some (.int .i64 Sb):=(ga Ba.out 2).trans rfl
           have mM:wc.cell? ⟨Ia,3,none⟩=some (.int .i64 Ub):=(ga Ba.out 3).trans rfl
           have lM:wc.cell? ⟨Ia,4,none⟩=some (.int .i64 Fc):=(ga Ba.out 4).trans rfl
           have R6:wc.cell? ⟨Ia,5,none⟩=some (.int .i64 Bd):=(ga Ba.out 5).trans rfl
           have Q6:wc.cell? ⟨Ia,6,none⟩=some (.string Rd):=(ga Ba.out 6).trans rfl
           have JK:=aa Ba.out 0
           have IK:=aa Ba.out 1
           have GK:=aa Ba.out 2
           have EK:=aa Ba.out 3
           have DK:=aa Ba.out 4
           have D0:=aa Ba.out 5
           have C0:=aa Ba.out 6
           go_wp2
           go_ret
           exact ⟨by first|rfl|(simp [La,Ka] <;> rfl)|(simp [*,La,Ka] <;> rfl),by repeat (first|(with_reducible first|exact HB.out|apply ia|apply ja|apply za|refine Aa ?_ Va.out|refine Aa ?_ Vb.out)|exact HB.out)⟩
          ·rw [if_neg c56] at H
           have aX:(Ub == 0)=false:=beq_eq_false_iff_ne.mpr c56
           have ZW:(Ub != 0)=true:=bne_iff_ne.mpr c56
           obtain rfl:=Option.some.inj H
           have Gac:=qb.out
           have Rab:=Sa.out
           have kM:wc.cell? ⟨Ia,0,none⟩=some (.int .i64 jc):=(ga Ba.out 0).trans rfl
           have jM:wc.cell? ⟨Ia,1,none⟩=some (.int .i64 Lb):=(ga Ba.out 1).trans rfl
           have N6:wc.cell? ⟨Ia,2,none⟩=some (.int .i64 Sb):=(ga Ba.out 2).trans rfl
           have M6:wc.cell? ⟨Ia,3,none⟩=some (.int .i64 Ub):=(ga Ba.out 3).trans rfl
           have L6:wc.cell? ⟨Ia,4,none⟩=some (.int .i64 Fc):=(ga Ba.out 4).trans rfl
           have K6:wc.cell? ⟨Ia,5,none⟩=some (.int .i64 Bd):=(ga Ba.out 5).trans rfl
           have J6:wc.cell? ⟨Ia,6,none⟩=some (.string Rd):=(ga Ba.out 6).trans rfl
           have CK:=aa Ba.out 0
           have BK:=aa Ba.out 1
           have YZ:=aa Ba.out 2
           have XZ:=aa Ba.out 3
           have WZ:=aa Ba.out 4
           have VZ:=aa Ba.out 5
           have UZ:=aa Ba.out 6
           go_wp2
           go_ret
           exact ⟨by first|rfl|(simp [La,Ka] <;> rfl)|(simp [*,La,Ka] <;> rfl),by repeat (first|(with_reducible first|exact HB.out|apply ia|apply ja|apply za|refine Aa ?_ Va.out|refine Aa ?_ Vb.out)|exact HB.out)⟩
         ·replace c55:=Bool.eq_false_iff.mpr c55
          subst c55
          have H1:(some false)=some r:=by rw [if_neg (show ¬ (false=true) by decide)] at H;exact H
          clear H
          have H:=H1
          clear H1
          obtain rfl:=Option.some.inj H
          have Fac:=qb.out
          have Qab:=Sa.out
          have XE:wc.cell? ⟨Ia,0,none⟩=some (.int .i64 jc):=(ga Ba.out 0).trans rfl
          have WE:wc.cell? ⟨Ia,1,none⟩=some (.int .i64 Lb):=(ga Ba.out 1).trans rfl
          have I6:wc.cell? ⟨Ia,2,none⟩=some (.int .i64 Sb):=(ga Ba.out 2).trans rfl
          have H6:wc.cell? ⟨Ia,3,none⟩=some (.int .i64 Ub):=(ga Ba.out 3).trans rfl
          have G6:wc.cell? ⟨Ia,4,none⟩=some (.int .i64 Fc):=(ga Ba.out 4).trans rfl
          have F6:wc.cell? ⟨Ia,5,none⟩=some (.int .i64 Bd):=(ga Ba.out 5).trans rfl
          have E6:wc.cell? ⟨Ia,6,none⟩=some (.string Rd):=(ga Ba.out 6).trans rfl
          have DD:=aa Ba.out 0
          have CD:=aa Ba.out 1
          have TZ:=aa Ba.out 2
          have SZ:=aa Ba.out 3
          have RZ:=aa Ba.out 4
          have QZ:=aa Ba.out 5
          have PZ:=aa Ba.out 6
          go_wp2
          go_ret
          exact ⟨by first|rfl|(simp [La,Ka] <;> rfl)|(simp [*,La,Ka] <;> rfl),by repeat (first|(with_reducible first|exact HB.out|apply ia|apply ja|apply za|refine Aa ?_ Va.out|refine Aa ?_ Vb.out)|exact HB.out)⟩
        ·replace c54:=Bool.eq_false_iff.mpr c54
         subst c54
         have H1:(some false)=some r:=by rw [if_neg (show ¬ (false=true) by decide)] at H;exact H
         clear H
         have H:=H1
         clear H1
         obtain rfl:=Option.some.inj H
         have yS:=qb.out
         have eS:=Sa.out
         have D6:wc.cell? ⟨Ia,0,none⟩=some (.int .i64 jc):=(ga Ba.out 0).trans rfl
         have C6:wc.cell? ⟨Ia,1,none⟩=some (.int .i64 Lb):=(ga Ba.out 1).trans rfl
         have z6:wc.cell? ⟨Ia,2,none⟩=some (.int .i64 Sb):=(ga Ba.out 2).trans rfl
         have u6:wc.cell? ⟨Ia,3,none⟩=some (.int .i64 Ub):=(ga Ba.out 3).trans rfl
         have m6:wc.cell? ⟨Ia,4,none⟩=some (.int .i64 Fc):=(ga Ba.out 4).trans rfl
         have l6:wc.cell? ⟨Ia,5,none⟩=some (.int .i64 Bd):=(ga Ba.out 5).trans rfl
         have j6:wc.cell? ⟨Ia,6,none⟩=some (.string Rd):=(ga Ba.out 6).trans rfl
         have OZ:=aa Ba.out 0
         have NZ:=aa Ba.out 1
         have MZ:=aa Ba.out 2
         have LZ:=aa Ba.out 3
         have KZ:=aa Ba.out 4
         have JZ:=aa Ba.out 5
         have IZ:=aa Ba.out 6
         go_wp2
         go_ret
         exact ⟨by first|rfl|(simp [La,Ka] <;> rfl)|(simp [*,La,Ka] <;> rfl),by repeat (first|(with_reducible first|exact HB.out|apply ia|apply ja|apply za|refine Aa ?_ Va.out|refine Aa ?_ Vb.out)|exact HB.out)⟩
       ·rw [if_neg c53] at H
        have cX:(jc == 1)=false:=beq_eq_false_iff_ne.mpr c53
        have bX:(jc != 1)=true:=bne_iff_ne.mpr c53
        by_cases c65:jc=2
        ·rw [if_pos c65] at H
         have eJ:(jc == 2)=true:=beq_iff_eq.mpr c65
         have UW:(jc != 2)=false:=bne_eq_false_iff_eq.mpr c65
         clear c65
         by_cases c66:t103=true
         ·subst c66
          have H1:(if t104=true then (if t105=true then (if Bd=0 then ((Tc.f kj27 (([(⟨#[61,61]⟩:ByteArray),(⟨#[60]⟩:ByteArray),(⟨#[38]⟩:ByteArray),(⟨#[43]⟩:ByteArray),(⟨#[45]⟩:ByteArray),(⟨#[42]⟩:ByteArray)]:List ByteArray)) Rd).bind fun t111=>(some t111)) else (some false)) else (some false)) else (some false))=some r:=by rw [if_pos rfl] at H;exact H
          clear H
          have H:=H1
          clear H1
          by_cases c67:t104=true
          ·subst c67
           have H1:(if t105=true then (if Bd=0 then ((Tc.f kj27 (([(⟨#[61,61]⟩:ByteArray),(⟨#[60]⟩:ByteArray),(⟨#[38]⟩:ByteArray),(⟨#[43]⟩:ByteArray),(⟨#[45]⟩:ByteArray),(⟨#[42]⟩:ByteArray)]:List ByteArray)) Rd).bind fun t111=>(some t111)) else (some false)) else (some false))=some r:=by rw [if_pos rfl] at H;exact H
           clear H
           have H:=H1
           clear H1
           by_cases c68:t105=true
           ·subst c68
            have H1:(if Bd=0 then ((Tc.f kj27 (([(⟨#[61,61]⟩:ByteArray),(⟨#[60]⟩:ByteArray),(⟨#[38]⟩:ByteArray),(⟨#[43]⟩:ByteArray),(⟨#[45]⟩:ByteArray),(⟨#[42]⟩:ByteArray)]:List ByteArray)) Rd).bind fun t111=>(some t111)) else (some false))=some r:=by rw [if_pos rfl] at H;exact H
            clear H
            have H:=H1
            clear H1
            by_cases c69:Bd=0
            ·rw [if_pos c69] at H
             have SW:(Bd == 0)=true:=beq_iff_eq.mpr c69
             have RW:(Bd != 0)=false:=bne_eq_false_iff_eq.mpr c69
             clear c69
             obtain ⟨y108,hy108⟩:∃ y_:List ByteArray,y_=(([(⟨#[61,61]⟩:ByteArray),(⟨#[60]⟩:ByteArray),(⟨#[38]⟩:ByteArray),(⟨#[43]⟩:ByteArray),(⟨#[45]⟩:ByteArray),(⟨#[42]⟩:ByteArray)]:List ByteArray)):=⟨_,rfl⟩
             replace H:((Tc.f kj27 y108 Rd).bind fun t111=>(some t111))=some r:=by first|(rw [hy108];with_reducible exact H)|(have Tj:=(Option.bind_some _ _).symm.trans H;rw [hy108];with_reducible exact Tj)|(have Tj:=(Option.bind_some _ _).symm.trans H;with_reducible exact Tj)|with_reducible exact H|(rw [hy108];exact H)|exact H
             have FO:=qa.mk hy108
             clear hy108
             replace H:=Option.bind_eq_some_iff.mp H
             obtain ⟨t111,OX,H⟩:=H
             replace H:(some t111)=some r:=H
             have lB:=qa.mk OX
             clear OX
             obtain rfl:=Option.some.inj H
             have Bac:=qb.out
             have Mab:=Sa.out
             have TE:wc.cell? ⟨Ia,0,none⟩=some (.int .i64 jc):=(ga Ba.out 0).trans rfl
             have SE:wc.cell? ⟨Ia,1,none⟩=some (.int .i64 Lb):=(ga Ba.out 1).trans rfl
             have RE:wc.cell? ⟨Ia,2,none⟩=some (.int .i64 Sb):=(ga Ba.out 2).trans rfl
             have QE:wc.cell? ⟨Ia,3,none⟩=some (.int .i64 Ub):=(ga Ba.out 3).trans rfl
             have PE:wc.cell? ⟨Ia,4,none⟩=some (.int .i64 Fc):=(ga Ba.out 4).trans rfl
             have OE:wc.cell? ⟨Ia,5,none⟩=some (.int .i64 Bd):=(ga Ba.out 5).trans rfl
             have ME:wc.cell? ⟨Ia,6,none⟩=some (.string Rd):=(ga Ba.out 6).trans rfl
             have yD:=aa Ba.out 0
             have xD:=aa Ba.out 1
             have wD:=aa Ba.out 2
             have vD:=aa Ba.out 3
             have uD:=aa Ba.out 4
             have tD:=aa Ba.out 5
             have sD:=aa Ba.out 6
             go_wp2_with (first|((with_reducible refine Mb (N:=109) rfl ?_);(try (refine pg (by rfl) ?_;dsimp only));refine Kd.mG Kd.string _ 9 ?hg (N:=109) ?hd (xs:=([(⟨#[61,61]⟩:ByteArray),(⟨#[60]⟩:ByteArray),(⟨#[38]⟩:ByteArray),(⟨#[43]⟩:ByteArray),(⟨#[45]⟩:ByteArray),(⟨#[42]⟩:ByteArray)]:List ByteArray)) (inner:=[.string (⟨#[61,61]⟩:ByteArray),.string (⟨#[60]⟩:ByteArray),.string (⟨#[38]⟩:ByteArray),.string (⟨#[43]⟩:ByteArray),.string (⟨#[45]⟩:ByteArray),.string (⟨#[42]⟩:ByteArray)]) (ok:=fun _=>True) (Uo:=fun _=>True) ?hr ?hp (fun _ hk=>hk) trivial (Below.refl _ _) (Nat.le_refl _) (by simp) ?_;(case hd=>rfl);(case hg=>rfl);(case hr=>first|(go_simp;done)|(go_simp;rfl));(case hp=>exact (kf.one (show Kd.M Kd.string _ _ _ (⟨#[61,61]⟩:ByteArray) [.string (⟨#[61,61]⟩:ByteArray)] from rfl) (kf.one (show Kd.M Kd.string _ _ _ (⟨#[60]⟩:ByteArray) [.string (⟨#[60]⟩:ByteArray)] from rfl) (kf.one (show Kd.M Kd.string _ _ _ (⟨#[38]⟩:ByteArray) [.string (⟨#[38]⟩:ByteArray)] from rfl) (kf.one (show Kd.M Kd.string _ _ _ (⟨#[43]⟩:ByteArray) [.string (⟨#[43]⟩:ByteArray)] from rfl) (kf.one (show Kd.M Kd.string _ _ _ (⟨#[45]⟩:ByteArray) [.string (⟨#[45]⟩:ByteArray)] from rfl) (kf.one (show Kd.M Kd.string _ _ _ (⟨#[42]⟩:ByteArray) [.string (⟨#[42]⟩:ByteArray)] from rfl) (kf.none _ _))))))));intro vae UJ aI hb iI xp;clear iI xp;(first|rw [← FO.out] at aI|(simp only [Int.reduceToNat] at aI;rw [← FO.out] at aI));have Pb:=qa.mk (Kd.Xg aI (Na (by repeat (first|(with_reducible first|exact HB.out|apply ia|apply ja|apply za|refine Aa ?_ Va.out|refine Aa ?_ Vb.out)|exact HB.out))));have Wb:=qa.mk (Wa (g:=Fa) (o:=.cells #[.slice Ib Ra.length Gb,.int .i64 Ja,.int .i64 Ma,.int .i64 Oa,.slice qc Qa.length dc] 30 (0,0)) (by (with_reducible repeat (first|refine Ea ?_ _|refine Ga ?_|refine Da ?_ _));exact ua.out) hb);have nc:=qa.mk (Wa (g:=Ia) (o:=.cells #[.int .i64 jc,.int .i64 Lb,.int .i64 Sb,.int .i64 Ub,.int .i64 Fc,.int .i64 Bd,.string Rd] 70 (0,0)) (by (with_reducible repeat (first|refine Ea ?_ _|refine Ga ?_|refine Da ?_ _));exact Ba.out) hb);have Nc:=qa.mk (Pa (by repeat (first|(with_reducible first|exact HB.out|apply ia|apply ja|apply za|refine Aa ?_ Va.out|refine Aa ?_ Vb.out)|exact HB.out)) hb);clear ua;clear Ba;clear HB;have zJ:=Pb;have ua:=Wb;have Ba:=nc;have HB:=Nc;clear Pb Wb nc Nc;clear hb aI;have P5:UJ.cell? ⟨Ia,0,none⟩=some (.int .i64 jc):=(ga Ba.out 0).trans rfl;have O5:UJ.cell? ⟨Ia,1,none⟩=some (.int .i64 Lb):=(ga Ba.out 1).trans rfl;have N5:UJ.cell? ⟨Ia,2,none⟩=some (.int .i64 Sb):=(ga Ba.out 2).trans rfl;have M5:UJ.cell? ⟨Ia,3,none⟩=some (.int .i64 Ub):=(ga Ba.out 3).trans rfl;have L5:UJ.cell? ⟨Ia,4,none⟩=some (.int .i64 Fc):=(ga Ba.out 4).trans rfl;have K5:UJ.cell? ⟨Ia,5,none⟩=some (.int .i64 Bd):=(ga Ba.out 5).trans rfl;have J5:UJ.cell? ⟨Ia,6,none⟩=some (.string Rd):=(ga Ba.out 6).trans rfl;have wZ:=aa Ba.out 0;have vZ:=aa Ba.out 1;have uZ:=aa Ba.out 2;have tZ:=aa Ba.out 3;have sZ:=aa Ba.out 4;have rZ:=aa Ba.out 5;have qZ:=aa Ba.out 6;obtain ⟨Eaf,baf,Daa⟩:=Kd.mh zJ.out;subst Daa)|(go_at_call 128;(with_reducible refine (Tc.calls kj27 _ _ y108 Rd t111 _ ?side1 ?side2 lB.out).mono ?_);(case side1=>repeat (first|exact (Kd.ee zJ.out).2.2|(with_reducible refine Kd.yc ?_ _)|(with_reducible refine Kd.uc ?_ _)|(with_reducible refine Kd.Sc ?_)));(case side2=>exact (Kd.ee zJ.out).2.1);rintro e w' ⟨rfl,⟨nd,rfl⟩⟩))
             go_ret
             exact ⟨by first|rfl|(simp [La,Ka] <;> rfl)|(simp [*,La,Ka] <;> rfl),by repeat (first|(with_reducible first|exact HB.out|apply ia|apply ja|apply za|refine Aa ?_ Va.out|refine Aa ?_ Vb.out)|exact HB.out)⟩
            ·rw [if_neg c69] at H
             have SW:(Bd == 0)=false:=beq_eq_false_iff_ne.mpr c69
             have RW:(Bd != 0)=true:=bne_iff_ne.mpr c69
             obtain rfl:=Option.some.inj H
             have xac:=qb.out
             have Iab:=Sa.out
             have F5:wc.cell? ⟨Ia,0,none⟩=some (.int .i64 jc):=(ga Ba.out 0).trans rfl
             have E5:wc.cell? ⟨Ia,1,none⟩=some (.int .i64 Lb):=(ga Ba.out 1).trans rfl
             have D5:wc.cell? ⟨Ia,2,none⟩=some (.int .i64 Sb):=(ga Ba.out 2).trans rfl
             have C5:wc.cell? ⟨Ia,3,none⟩=some (.int .i64 Ub):=(ga Ba.out 3).trans rfl
             have B5:wc.cell? ⟨Ia,4,none⟩=some (.int .i64 Fc):=(ga Ba.out 4).trans rfl
             have z5:wc.cell? ⟨Ia,5,none⟩=some (.int .i64 Bd):=(ga Ba.out 5).trans rfl
             have u5:wc.cell? ⟨Ia,6,none⟩=some (.string Rd):=(ga Ba.out 6).trans rfl
             have nZ:=aa Ba.out 0
             have mZ:=aa Ba.out 1
             have lZ:=aa Ba.out 2
             have kZ:=aa Ba.out 3
             have jZ:=aa Ba.out 4
             have iZ:=aa Ba.out 5
             have gZ:=aa Ba.out 6
             go_wp2
             go_ret
             exact ⟨by first|rfl|(simp [La,Ka] <;> rfl)|(simp [*,La,Ka] <;> rfl),by repeat (first|(with_reducible first|exact HB.out|apply ia|apply ja|apply za|refine Aa ?_ Va.out|refine Aa ?_ Vb.out)|exact HB.out)⟩
           ·replace c68:=Bool.eq_false_iff.mpr c68
            subst c68
            have H1:(some false)=some r:=by rw [if_neg (show ¬ (false=true) by decide)] at H;exact H
            clear H
            have H:=H1
            clear H1
            obtain rfl:=Option.some.inj H
            have wac:=qb.out
            have Hab:=Sa.out
            have KE:wc.cell? ⟨Ia,0,none⟩=some (.int .i64 jc):=(ga Ba.out 0).trans rfl
            have JE:wc.cell? ⟨Ia,1,none⟩=some (.int .i64 Lb):=(ga Ba.out 1).trans rfl
            have q5:wc.cell? ⟨Ia,2,none⟩=some (.int .i64 Sb):=(ga Ba.out 2).trans rfl
            have p5:wc.cell? ⟨Ia,3,none⟩=some (.int .i64 Ub):=(ga Ba.out 3).trans rfl
            have m5:wc.cell? ⟨Ia,4,none⟩=some (.int .i64 Fc):=(ga Ba.out 4).trans rfl
            have j5:wc.cell? ⟨Ia,5,none⟩=some (.int .i64 Bd):=(ga Ba.out 5).trans rfl
            have e5:wc.cell? ⟨Ia,6,none⟩=some (.string Rd):=(ga Ba.out 6).trans rfl
            have rD:=aa Ba.out 0
            have qD:=aa Ba.out 1
            have fZ:=aa Ba.out 2
            have eZ:=aa Ba.out 3
            have dZ:=aa Ba.out 4
            have cZ:=aa Ba.out 5
            have bZ:=aa Ba.out 6
            go_wp2
            go_ret
            exact ⟨by first|rfl|(simp [La,Ka] <;> rfl)|(simp [*,La,Ka] <;> rfl),by repeat (first|(with_reducible first|exact HB.out|apply ia|apply ja|apply za|refine Aa ?_ Va.out|refine Aa ?_ Vb.out)|exact HB.out)⟩
          ·replace c67:=Bool.eq_false_iff.mpr c67
           subst c67
           have H1:(some false)=some r:=by rw [if_neg (show ¬ (false=true) by decide)] at H;exact H
           clear H
           have H:=H1
           clear H1
           obtain rfl:=Option.some.inj H
           have vac:=qb.out
           have Gab:=Sa.out
           have IE:wc.cell? ⟨Ia,0,none⟩=some (.int .i64 jc):=(ga Ba.out 0).trans rfl
           have HE:wc.cell? ⟨Ia,1,none⟩=some (.int .i64 Lb):=(ga Ba.out 1).trans rfl
           have FE:wc.cell? ⟨Ia,2,none⟩=some (.int .i64 Sb):=(ga Ba.out 2).trans rfl
           have EE:wc.cell? ⟨Ia,3,none⟩=some (.int .i64 Ub):=(ga Ba.out 3).trans rfl
           have DE:wc.cell? ⟨Ia,4,none⟩=some (.int .i64 Fc):=(ga Ba.out 4).trans rfl
           have CE:wc.cell? ⟨Ia,5,none⟩=some (.int .i64 Bd):=(ga Ba.out 5).trans rfl
           have AE:wc.cell? ⟨Ia,6,none⟩=some (.string Rd):=(ga Ba.out 6).trans rfl
           have oD:=aa Ba.out 0
           have nD:=aa Ba.out 1
           have mD:=aa Ba.out 2
           have lD:=aa Ba.out 3
           have kD:=aa Ba.out 4
           have jD:=aa Ba.out 5
           have iD:=aa Ba.out 6
           go_wp2
           go_ret
           exact ⟨by first|rfl|(simp [La,Ka] <;> rfl)|(simp [*,La,Ka] <;> rfl),by repeat (first|(with_reducible first|exact HB.out|apply ia|apply ja|apply za|refine Aa ?_ Va.out|refine Aa ?_ Vb.out)|exact HB.out)⟩
         ·replace c66:=Bool.eq_false_iff.mpr c66
          subst c66
          have H1:(some false)=some r:=by rw [if_neg (show ¬ (false=true) by decide)] at H;exact H
          clear H
          have H:=H1
          clear H1
          obtain rfl:=Option.some.inj H
          have uac:=qb.out
          have Fab:=Sa.out
          have Z4:wc.cell? ⟨Ia,0,none⟩=some (.int .i64 jc):=(ga Ba.out 0).trans rfl
          have Y4:wc.cell? ⟨Ia,1,none⟩=some (.int .i64 Lb):=(ga Ba.out 1).trans rfl
          have X4:wc.cell? ⟨Ia,2,none⟩=some (.int .i64 Sb):=(ga Ba.out 2).trans rfl
          have W4:wc.cell? ⟨Ia,3,none⟩=some (.int .i64 Ub):=(ga Ba.out 3).trans rfl
          have V4:wc.cell? ⟨Ia,4,none⟩=some (.int .i64 Fc):=(ga Ba.out 4).trans rfl
          have U4:wc.cell? ⟨Ia,5,none⟩=some (.int .i64 Bd):=(ga Ba.out 5).trans rfl
          have S4:wc.cell? ⟨Ia,6,none⟩=some (.string Rd):=(ga Ba.out 6).trans rfl
          have aZ:=aa Ba.out 0
          have ZY:=aa Ba.out 1
          have YY:=aa Ba.out 2
          have XY:=aa Ba.out 3
          have WY:=aa Ba.out 4
          have VY:=aa Ba.out 5
          have UY:=aa Ba.out 6
          go_wp2
          go_ret
          exact ⟨by first|rfl|(simp [La,Ka] <;> rfl)|(simp [*,La,Ka] <;> rfl),by repeat (first|(with_reducible first|exact HB.out|apply ia|apply ja|apply za|refine Aa ?_ Va.out|refine Aa ?_ Vb.out)|exact HB.out)⟩
        ·rw [if_neg c65] at H
         have eJ:(jc == 2)=false:=beq_eq_false_iff_ne.mpr c65
         have UW:(jc != 2)=true:=bne_iff_ne.mpr c65
         by_cases c85:jc=3
         ·rw [if_pos c85] at H
          have QW:(jc == 3)=true:=beq_iff_eq.mpr c85
          have PW:(jc != 3)=false:=bne_eq_false_iff_eq.mpr c85
          clear c85
          by_cases c86:t103=true
          ·subst c86
           have H1:(some gA)=some r:=by rw [if_pos rfl] at H;exact H
           clear H
           have H:=H1
           clear H1
           obtain rfl:=Option.some.inj H
           have sac:=qb.out
           have Eab:=Sa.out
           have R4:wc.cell? ⟨Ia,0,none⟩=some (.int .i64 jc):=(ga Ba.out 0).trans rfl
           have Q4:wc.cell? ⟨Ia,1,none⟩=some (.int .i64 Lb):=(ga Ba.out 1).trans rfl
           have P4:wc.cell? ⟨Ia,2,none⟩=some (.int .i64 Sb):=(ga Ba.out 2).trans rfl
           have O4:wc.cell? ⟨Ia,3,none⟩=some (.int .i64 Ub):=(ga Ba.out 3).trans rfl
           have N4:wc.cell? ⟨Ia,4,none⟩=some (.int .i64 Fc):=(ga Ba.out 4).trans rfl
           have M4:wc.cell? ⟨Ia,5,none⟩=some (.int .i64 Bd):=(ga Ba.out 5).trans rfl
           have L4:wc.cell? ⟨Ia,6,none⟩=some (.string Rd):=(ga Ba.out 6).trans rfl
           have TY:=aa Ba.out 0
           have SY:=aa Ba.out 1
           have RY:=aa Ba.out 2
           have QY:=aa Ba.out 3
           have PY:=aa Ba.out 4
           have OY:=aa Ba.out 5
           have NY:=aa Ba.out 6
           go_wp2
           go_ret
           exact ⟨by first|rfl|(simp [La,Ka] <;> rfl)|(simp [*,La,Ka] <;> rfl),by repeat (first|(with_reducible first|exact HB.out|apply ia|apply ja|apply za|refine Aa ?_ Va.out|refine Aa ?_ Vb.out)|exact HB.out)⟩
          ·replace c86:=Bool.eq_false_iff.mpr c86
           subst c86
           have H1:(some false)=some r:=by rw [if_neg (show ¬ (false=true) by decide)] at H;exact H
           clear H
           have H:=H1
           clear H1
           obtain rfl:=Option.some.inj H
           have wS:=qb.out
           have cS:=Sa.out
           have zE:wc.cell? ⟨Ia,0,none⟩=some (.int .i64 jc):=(ga Ba.out 0).trans rfl
           have yE:wc.cell? ⟨Ia,1,none⟩=some (.int .i64 Lb):=(ga Ba.out 1).trans rfl
           have K4:wc.cell? ⟨Ia,2,none⟩=some (.int .i64 Sb):=(ga Ba.out 2).trans rfl
           have J4:wc.cell? ⟨Ia,3,none⟩=some (.int .i64 Ub):=(ga Ba.out 3).trans rfl
           have I4:wc.cell? ⟨Ia,4,none⟩=some (.int .i64 Fc):=(ga Ba.out 4).trans rfl
           have G4:wc.cell? ⟨Ia,5,none⟩=some (.int .i64 Bd):=(ga Ba.out 5).trans rfl
           have F4:wc.cell? ⟨Ia,6,none⟩=some (.string Rd):=(ga Ba.out 6).trans rfl
           have hD:=aa Ba.out 0
           have gD:=aa Ba.out 1
           have MY:=aa Ba.out 2
           have LY:=aa Ba.out 3
           have KY:=aa Ba.out 4
           have JY:=aa Ba.out 5
           have IY:=aa Ba.out 6
           go_wp2
           go_ret
           exact ⟨by first|rfl|(simp [La,Ka] <;> rfl)|(simp [*,La,Ka] <;> rfl),by repeat (first|(with_reducible first|exact HB.out|apply ia|apply ja|apply za|refine Aa ?_ Va.out|refine Aa ?_ Vb.out)|exact HB.out)⟩
         ·rw [if_neg c85] at H
          have QW:(jc == 3)=false:=beq_eq_false_iff_ne.mpr c85
          have PW:(jc != 3)=true:=bne_iff_ne.mpr c85
          by_cases c91:jc=4
          ·rw [if_pos c91] at H
           have OW:(jc == 4)=true:=beq_iff_eq.mpr c91
           have NW:(jc != 4)=false:=bne_eq_false_iff_eq.mpr c91
           clear c91
           by_cases c92:Lb=0
           ·rw [if_pos c92] at H
            have nu:(Lb == 0)=true:=beq_iff_eq.mpr c92
            have dG:(Lb != 0)=false:=bne_eq_false_iff_eq.mpr c92
            clear c92
            by_cases c93:gA=true
            ·subst c93
             have H1:((jb.f Fc 0 (wrap64 (Oa - 1))).bind fun t112=>(some t112))=some r:=by rw [if_pos rfl] at H;exact H
             clear H
             have H:=H1
             clear H1
             replace H:=Option.bind_eq_some_iff.mp H
             obtain ⟨t112,NX,H⟩:=H
             replace H:(some t112)=some r:=H
             have A94:=qa.mk NX
             clear NX
             obtain rfl:=Option.some.inj H
             have rac:=qb.out
             have Dab:=Sa.out
             have E4:wc.cell? ⟨Ia,0,none⟩=some (.int .i64 jc):=(ga Ba.out 0).trans rfl
             have D4:wc.cell? ⟨Ia,1,none⟩=some (.int .i64 Lb):=(ga Ba.out 1).trans rfl
             have C4:wc.cell? ⟨Ia,2,none⟩=some (.int .i64 Sb):=(ga Ba.out 2).trans rfl
             have z4:wc.cell? ⟨Ia,3,none⟩=some (.int .i64 Ub):=(ga Ba.out 3).trans rfl
             have m4:wc.cell? ⟨Ia,4,none⟩=some (.int .i64 Fc):=(ga Ba.out 4).trans rfl
             have j4:wc.cell? ⟨Ia,5,none⟩=some (.int .i64 Bd):=(ga Ba.out 5).trans rfl
             have Z3:wc.cell? ⟨Ia,6,none⟩=some (.string Rd):=(ga Ba.out 6).trans rfl
             have HY:=aa Ba.out 0
             have GY:=aa Ba.out 1
             have FY:=aa Ba.out 2
             have EY:=aa Ba.out 3
             have DY:=aa Ba.out 4
             have CY:=aa Ba.out 5
             have AY:=aa Ba.out 6
             have Y3:wc.cell? ⟨Fa,0,none⟩=some (.slice Ib Ra.length Gb):=(ga ua.out 0).trans rfl
             have X3:wc.cell? ⟨Fa,1,none⟩=some (.int .i64 Ja):=(ga ua.out 1).trans rfl
             have V3:wc.cell? ⟨Fa,2,none⟩=some (.int .i64 Ma):=(ga ua.out 2).trans rfl
             have U3:wc.cell? ⟨Fa,3,none⟩=some (.int .i64 Oa):=(ga ua.out 3).trans rfl
             have T3:wc.cell? ⟨Fa,4,none⟩=some (.slice qc Qa.length dc):=(ga ua.out 4).trans rfl
             have zY:=aa ua.out 0
             have yY:=aa ua.out 1
             have xY:=aa ua.out 2
             have wY:=aa ua.out 3
             have vY:=aa ua.out 4
             go_wp2_with (first|(go_at_call 54;(with_reducible refine (jb.calls Fc 0 (wrap64 (Oa - 1)) t112 _ A94.out).mono ?_);rintro e w' ⟨rfl,⟨nd,rfl⟩⟩))
             go_ret
             exact ⟨by first|rfl|(simp [La,Ka] <;> rfl)|(simp [*,La,Ka] <;> rfl),by repeat (first|(with_reducible first|exact HB.out|apply ia|apply ja|apply za|refine Aa ?_ Va.out|refine Aa ?_ Vb.out)|exact HB.out)⟩
            ·replace c93:=Bool.eq_false_iff.mpr c93
             subst c93
             have H1:(some false)=some r:=by rw [if_neg (show ¬ (false=true) by decide)] at H;exact H
             clear H
             have H:=H1
             clear H1
             obtain rfl:=Option.some.inj H
             have pac:=qb.out
             have Bab:=Sa.out
             have Q3:wc.cell? ⟨Ia,0,none⟩=some (.int .i64 jc):=(ga Ba.out 0).trans rfl
             have P3:wc.cell? ⟨Ia,1,none⟩=some (.int .i64 Lb):=(ga Ba.out 1).trans rfl
             have O3:wc.cell? ⟨Ia,2,none⟩=some (.int .i64 Sb):=(ga Ba.out 2).trans rfl
             have N3:wc.cell? ⟨Ia,3,none⟩=some (.int .i64 Ub):=(ga Ba.out 3).trans rfl
             have M3:wc.cell? ⟨Ia,4,none⟩=some (.int .i64 Fc):=(ga Ba.out 4).trans rfl
             have L3:wc.cell? ⟨Ia,5,none⟩=some (.int .i64 Bd):=(ga Ba.out 5).trans rfl
             have K3:wc.cell? ⟨Ia,6,none⟩=some (.string Rd):=(ga Ba.out 6).trans rfl
             have sY:=aa Ba.out 0
             have rY:=aa Ba.out 1
             have qY:=aa Ba.out 2
             have pY:=aa Ba.out 3
             have oY:=aa Ba.out 4
             have nY:=aa Ba.out 5
             have mY:=aa Ba.out 6
             go_wp2
             go_ret
             exact ⟨by first|rfl|(simp [La,Ka] <;> rfl)|(simp [*,La,Ka] <;> rfl),by repeat (first|(with_reducible first|exact HB.out|apply ia|apply ja|apply za|refine Aa ?_ Va.out|refine Aa ?_ Vb.out)|exact HB.out)⟩
           ·rw [if_neg c92] at H
            have nu:(Lb == 0)=false:=beq_eq_false_iff_ne.mpr c92
            have dG:(Lb != 0)=true:=bne_iff_ne.mpr c92
            obtain rfl:=Option.some.inj H
            have w_:=qb.out
            have d_:=Sa.out
            have KI:wc.cell? ⟨Ia,0,none⟩=some (.int .i64 jc):=(ga Ba.out 0).trans rfl
            have JI:wc.cell? ⟨Ia,1,none⟩=some (.int .i64 Lb):=(ga Ba.out 1).trans rfl
            have RV:wc.cell? ⟨Ia,2,none⟩=some (.int .i64 Sb):=(ga Ba.out 2).trans rfl
            have QV:wc.cell? ⟨Ia,3,none⟩=some (.int .i64 Ub):=(ga Ba.out 3).trans rfl
            have PV:wc.cell? ⟨Ia,4,none⟩=some (.int .i64 Fc):=(ga Ba.out 4).trans rfl
            have OV:wc.cell? ⟨Ia,5,none⟩=some (.int .i64 Bd):=(ga Ba.out 5).trans rfl
            have NV:wc.cell? ⟨Ia,6,none⟩=some (.string Rd):=(ga Ba.out 6).trans rfl
            have rI:=aa Ba.out 0
            have qI:=aa Ba.out 1
            have sU:=aa Ba.out 2
            have rU:=aa Ba.out 3
            have qU:=aa Ba.out 4
            have pU:=aa Ba.out 5
            have oU:=aa Ba.out 6
            go_wp2
            go_ret
            exact ⟨by first|rfl|(simp [La,Ka] <;> rfl)|(simp [*,La,Ka] <;> rfl),by repeat (first|(with_reducible first|exact HB.out|apply ia|apply ja|apply za|refine Aa ?_ Va.out|refine Aa ?_ Vb.out)|exact HB.out)⟩
          ·rw [if_neg c91] at H
           have OW:(jc == 4)=false:=beq_eq_false_iff_ne.mpr c91
           have NW:(jc != 4)=true:=bne_iff_ne.mpr c91
           by_cases c102:jc=5
           ·rw [if_pos c102] at H
            have TQ:(jc == 5)=true:=beq_iff_eq.mpr c102
            have SQ:(jc != 5)=false:=bne_eq_false_iff_eq.mpr c102
            clear c102
            by_cases c103:t103=true
            ·subst c103
             have H1:(if Sb=0 then (if Ub=0 then (some (Bd == 0)) else (some false)) else (some false))=some r:=by rw [if_pos rfl] at H;exact H
             clear H
             have H:=H1
             clear H1
             by_cases c104:Sb=0
             ·rw [if_pos c104] at H
              have OQ:(Sb == 0)=true:=beq_iff_eq.mpr c104
              have NQ:(Sb != 0)=false:=bne_eq_false_iff_eq.mpr c104
              clear c104
              by_cases c105:Ub=0
              ·rw [if_pos c105] at H
               have MQ:(Ub == 0)=true:=beq_iff_eq.mpr c105
               have LQ:(Ub != 0)=false:=bne_eq_false_iff_eq.mpr c105
               clear c105
               obtain rfl:=Option.some.inj H
               have v_:=qb.out
               have b_:=Sa.out
               have MV:wc.cell? ⟨Ia,0,none⟩=some (.int .i64 jc):=(ga Ba.out 0).trans rfl
               have LV:wc.cell? ⟨Ia,1,none⟩=some (.int .i64 Lb):=(ga Ba.out 1).trans rfl
               have JV:wc.cell? ⟨Ia,2,none⟩=some (.int .i64 Sb):=(ga Ba.out 2).trans rfl
               have IV:wc.cell? ⟨Ia,3,none⟩=some (.int .i64 Ub):=(ga Ba.out 3).trans rfl
               have HV:wc.cell? ⟨Ia,4,none⟩=some (.int .i64 Fc):=(ga Ba.out 4).trans rfl
               have GV:wc.cell? ⟨Ia,5,none⟩=some (.int .i64 Bd):=(ga Ba.out 5).trans rfl
               have FV:wc.cell? ⟨Ia,6,none⟩=some (.string Rd):=(ga Ba.out 6).trans rfl
               have nU:=aa Ba.out 0
               have mU:=aa Ba.out 1
               have lU:=aa Ba.out 2
               have kU:=aa Ba.out 3
               have jU:=aa Ba.out 4
               have iU:=aa Ba.out 5
               have hU:=aa Ba.out 6
               go_wp2
               go_ret
               exact ⟨by first|rfl|(simp [La,Ka] <;> rfl)|(simp [*,La,Ka] <;> rfl),by repeat (first|(with_reducible first|exact HB.out|apply ia|apply ja|apply za|refine Aa ?_ Va.out|refine Aa ?_ Vb.out)|exact HB.out)⟩
              ·rw [if_neg c105] at H
               have MQ:(Ub == 0)=false:=beq_eq_false_iff_ne.mpr c105
               have LQ:(Ub != 0)=true:=bne_iff_ne.mpr c105
               obtain rfl:=Option.some.inj H
               have u_:=qb.out
               have Z9:=Sa.out
               have EV:wc.cell? ⟨Ia,0,none⟩=some (.int .i64 jc):=(ga Ba.out 0).trans rfl
               have DV:wc.cell? ⟨Ia,1,none⟩=some (.int .i64 Lb):=(ga Ba.out 1).trans rfl
               have CV:wc.cell? ⟨Ia,2,none⟩=some (.int .i64 Sb):=(ga Ba.out 2).trans rfl
               have BV:wc.cell? ⟨Ia,3,none⟩=some (.int .i64 Ub):=(ga Ba.out 3).trans rfl
               have AV:wc.cell? ⟨Ia,4,none⟩=some (.int .i64 Fc):=(ga Ba.out 4).trans rfl
               have zV:wc.cell? ⟨Ia,5,none⟩=some (.int .i64 Bd):=(ga Ba.out 5).trans rfl
               have yV:wc.cell? ⟨Ia,6,none⟩=some (.string Rd):=(ga Ba.out 6).trans rfl
               have gU:=aa Ba.out 0
               have fU:=aa Ba.out 1
               have eU:=aa Ba.out 2
               have dU:=aa Ba.out 3
               have cU:=aa Ba.out 4
               have bU:=aa Ba.out 5
               have aU:=aa Ba.out 6
               go_wp2
               go_ret
               exact ⟨by first|rfl|(simp [La,Ka] <;> rfl)|(simp [*,La,Ka] <;> rfl),by repeat (first|(with_reducible first|exact HB.out|apply ia|apply ja|apply za|refine Aa ?_ Va.out|refine Aa ?_ Vb.out)|exact HB.out)⟩
             ·rw [if_neg c104] at H
              have OQ:(Sb == 0)=false:=beq_eq_false_iff_ne.mpr c104
              have NQ:(Sb != 0)=true:=bne_iff_ne.mpr c104
              obtain rfl:=Option.some.inj H
              have t_:=qb.out
              have Y9:=Sa.out
              have xV:wc.cell? ⟨Ia,0,none⟩=some (.int .i64 jc):=(ga Ba.out 0).trans rfl
              have wV:wc.cell? ⟨Ia,1,none⟩=some (.int .i64 Lb):=(ga Ba.out 1).trans rfl
              have vV:wc.cell? ⟨Ia,2,none⟩=some (.int .i64 Sb):=(ga Ba.out 2).trans rfl
              have uV:wc.cell? ⟨Ia,3,none⟩=some (.int .i64 Ub):=(ga Ba.out 3).trans rfl
              have tV:wc.cell? ⟨Ia,4,none⟩=some (.int .i64 Fc):=(ga Ba.out 4).trans rfl
              have sV:wc.cell? ⟨Ia,5,none⟩=some (.int .i64 Bd):=(ga Ba.out 5).trans rfl
              have rV:wc.cell? ⟨Ia,6,none⟩=some (.string Rd):=(ga Ba.out 6).trans rfl
              have ZT:=aa Ba.out 0
              have YT:=aa Ba.out 1
              have XT:=aa Ba.out 2
              have WT:=aa Ba.out 3
              have VT:=aa Ba.out 4
              have UT:=aa Ba.out 5
              have TT:=aa Ba.out 6
              go_wp2
              go_ret
              exact ⟨by first|rfl|(simp [La,Ka] <;> rfl)|(simp [*,La,Ka] <;> rfl),by repeat (first|(with_reducible first|exact HB.out|apply ia|apply ja|apply za|refine Aa ?_ Va.out|refine Aa ?_ Vb.out)|exact HB.out)⟩
            ·replace c103:=Bool.eq_false_iff.mpr c103
             subst c103
             have H1:(some false)=some r:=by rw [if_neg (show ¬ (false=true) by decide)] at H;exact H
             clear H
             have H:=H1
             clear H1
             obtain rfl:=Option.some.inj H
             have r_:=qb.out
             have X9:=Sa.out
             have qV:wc.cell? ⟨Ia,0,none⟩=some (.int .i64 jc):=(ga Ba.out 0).trans rfl
             have pV:wc.cell? ⟨Ia,1,none⟩=some (.int .i64 Lb):=(ga Ba.out 1).trans rfl
             have oV:wc.cell? ⟨Ia,2,none⟩=some (.int .i64 Sb):=(ga Ba.out 2).trans rfl
             have nV:wc.cell? ⟨Ia,3,none⟩=some (.int .i64 Ub):=(ga Ba.out 3).trans rfl
             have mV:wc.cell? ⟨Ia,4,none⟩=some (.int .i64 Fc):=(ga Ba.out 4).trans rfl
             have lV:wc.cell? ⟨Ia,5,none⟩=some (.int .i64 Bd):=(ga Ba.out 5).trans rfl
             have kV:wc.cell? ⟨Ia,6,none⟩=some (.string Rd):=(ga Ba.out 6).trans rfl
             have RT:=aa Ba.out 0
             have QT:=aa Ba.out 1
             have PT:=aa Ba.out 2
             have OT:=aa Ba.out 3
             have NT:=aa Ba.out 4
             have MT:=aa Ba.out 5
             have KT:=aa Ba.out 6
             go_wp2
             go_ret
             exact ⟨by first|rfl|(simp [La,Ka] <;> rfl)|(simp [*,La,Ka] <;> rfl),by repeat (first|(with_reducible first|exact HB.out|apply ia|apply ja|apply za|refine Aa ?_ Va.out|refine Aa ?_ Vb.out)|exact HB.out)⟩
           ·rw [if_neg c102] at H
            have TQ:(jc == 5)=false:=beq_eq_false_iff_ne.mpr c102
            have SQ:(jc != 5)=true:=bne_iff_ne.mpr c102
            by_cases c114:jc=6
            ·rw [if_pos c114] at H
             have KQ:(jc == 6)=true:=beq_iff_eq.mpr c114
             have JQ:(jc != 6)=false:=bne_eq_false_iff_eq.mpr c114
             clear c114
             by_cases c115:Lb=0
             ·rw [if_pos c115] at H
              have IQ:(Lb == 0)=true:=beq_iff_eq.mpr c115
              have HQ:(Lb != 0)=false:=bne_eq_false_iff_eq.mpr c115
              clear c115
              by_cases c116:t104=true
              ·subst c116
               have H1:(if Ub=0 then (some (Bd == 0)) else (some false))=some r:=by rw [if_pos rfl] at H;exact H
               clear H
               have H:=H1
               clear H1
               by_cases c117:Ub=0
               ·rw [if_pos c117] at H
                have GQ:(Ub == 0)=true:=beq_iff_eq.mpr c117
                have FQ:(Ub != 0)=false:=bne_eq_false_iff_eq.mpr c117
                clear c117
                obtain rfl:=Option.some.inj H
                have q_:=qb.out
                have W9:=Sa.out
                have jV:wc.cell? ⟨Ia,0,none⟩=some (.int .i64 jc):=(ga Ba.out 0).trans rfl
                have iV:wc.cell? ⟨Ia,1,none⟩=some (.int .i64 Lb):=(ga Ba.out 1).trans rfl
                have gV:wc.cell? ⟨Ia,2,none⟩=some (.int .i64 Sb):=(ga Ba.out 2).trans rfl
                have fV:wc.cell? ⟨Ia,3,none⟩=some (.int .i64 Ub):=(ga Ba.out 3).trans rfl
                have eV:wc.cell? ⟨Ia,4,none⟩=some (.int .i64 Fc):=(ga Ba.out 4).trans rfl
                have dV:wc.cell? ⟨Ia,5,none⟩=some (.int .i64 Bd):=(ga Ba.out 5).trans rfl
                have cV:wc.cell? ⟨Ia,6,none⟩=some (.string Rd):=(ga Ba.out 6).trans rfl
                have JT:=aa Ba.out 0
                have FT:=aa Ba.out 1
                have ET:=aa Ba.out 2
                have DT:=aa Ba.out 3
                have CT:=aa Ba.out 4
                have zT:=aa Ba.out 5
                have yT:=aa Ba.out 6
                go_wp2
                go_ret
                exact ⟨by first|rfl|(simp [La,Ka] <;> rfl)|(simp [*,La,Ka] <;> rfl),by repeat (first|(with_reducible first|exact HB.out|apply ia|apply ja|apply za|refine Aa ?_ Va.out|refine Aa ?_ Vb.out)|exact HB.out)⟩
               ·rw [if_neg c117] at H
                have GQ:(Ub == 0)=false:=beq_eq_false_iff_ne.mpr c117
                have FQ:(Ub != 0)=true:=bne_iff_ne.mpr c117
                obtain rfl:=Option.some.inj H
                have p_:=qb.out
                have V9:=Sa.out
                have bV:wc.cell? ⟨Ia,0,none⟩=some (.int .i64 jc):=(ga Ba.out 0).trans rfl
                have aV:wc.cell? ⟨Ia,1,none⟩=some (.int .i64 Lb):=(ga Ba.out 1).trans rfl
                have ZU:wc.cell? ⟨Ia,2,none⟩=some (.int .i64 Sb):=(ga Ba.out 2).trans rfl
                have YU:wc.cell? ⟨Ia,3,none⟩=some (.int .i64 Ub):=(ga Ba.out 3).trans rfl
                have XU:wc.cell? ⟨Ia,4,none⟩=some (.int .i64 Fc):=(ga Ba.out 4).trans rfl
                have WU:wc.cell? ⟨Ia,5,none⟩=some (.int .i64 Bd):=(ga Ba.out 5).trans rfl
                have VU:wc.cell? ⟨Ia,6,none⟩=some (.string Rd):=(ga Ba.out 6).trans rfl
                have xT:=aa Ba.out 0
                have wT:=aa Ba.out 1
                have vT:=aa Ba.out 2
                have uT:=aa Ba.out 3
                have tT:=aa Ba.out 4
                have rT:=aa Ba.out 5
                have qT:=aa Ba.out 6
                go_wp2
                go_ret
                exact ⟨by first|rfl|(simp [La,Ka] <;> rfl)|(simp [*,La,Ka] <;> rfl),by repeat (first|(with_reducible first|exact HB.out|apply ia|apply ja|apply za|refine Aa ?_ Va.out|refine Aa ?_ Vb.out)|exact HB.out)⟩
              ·replace c116:=Bool.eq_false_iff.mpr c116
               subst c116
               have H1:(some false)=some r:=by rw [if_neg (show ¬ (false=true) by decide)] at H;exact H
               clear H
               have H:=H1
               clear H1
               obtain rfl:=Option.some.inj H
               have o_:=qb.out
               have U9:=Sa.out
               have UU:wc.cell? ⟨Ia,0,none⟩=some (.int .i64 jc):=(ga Ba.out 0).trans rfl
               have TU:wc.cell? ⟨Ia,1,none⟩=some (.int .i64 Lb):=(ga Ba.out 1).trans rfl
               have SU:wc.cell? ⟨Ia,2,none⟩=some (.int .i64 Sb):=(ga Ba.out 2).trans rfl
               have RU:wc.cell? ⟨Ia,3,none⟩=some (.int .i64 Ub):=(ga Ba.out 3).trans rfl
               have QU:wc.cell? ⟨Ia,4,none⟩=some (.int .i64 Fc):=(ga Ba.out 4).trans rfl
               have PU:wc.cell? ⟨Ia,5,none⟩=some (.int .i64 Bd):=(ga Ba.out 5).trans rfl
               have OU:wc.cell? ⟨Ia,6,none⟩=some (.string Rd):=(ga Ba.out 6).trans rfl
               have pT:=aa Ba.out 0
               have oT:=aa Ba.out 1
               have nT:=aa Ba.out 2
               have mT:=aa Ba.out 3
               have lT:=aa Ba.out 4
               have kT:=aa Ba.out 5
               have jT:=aa Ba.out 6
               go_wp2
               go_ret
               exact ⟨by first|rfl|(simp [La,Ka] <;> rfl)|(simp [*,La,Ka] <;> rfl),by repeat (first|(with_reducible first|exact HB.out|apply ia|apply ja|apply za|refine Aa ?_ Va.out|refine Aa ?_ Vb.out)|exact HB.out)⟩
             ·rw [if_neg c115] at H
              have IQ:(Lb == 0)=false:=beq_eq_false_iff_ne.mpr c115
              have HQ:(Lb != 0)=true:=bne_iff_ne.mpr c115
              obtain rfl:=Option.some.inj H
              have l_:=qb.out
              have S9:=Sa.out
              have NU:wc.cell? ⟨Ia,0,none⟩=some (.int .i64 jc):=(ga Ba.out 0).trans rfl
              have MU:wc.cell? ⟨Ia,1,none⟩=some (.int .i64 Lb):=(ga Ba.out 1).trans rfl
              have LU:wc.cell? ⟨Ia,2,none⟩=some (.int .i64 Sb):=(ga Ba.out 2).trans rfl
              have KU:wc.cell? ⟨Ia,3,none⟩=some (.int .i64 Ub):=(ga Ba.out 3).trans rfl
              have JU:wc.cell? ⟨Ia,4,none⟩=some (.int .i64 Fc):=(ga Ba.out 4).trans rfl
              have IU:wc.cell? ⟨Ia,5,none⟩=some (.int .i64 Bd):=(ga Ba.out 5).trans rfl
              have HU:wc.cell? ⟨Ia,6,none⟩=some (.string Rd):=(ga Ba.out 6).trans rfl
              have iT:=aa Ba.out 0
              have gT:=aa Ba.out 1
              have fT:=aa Ba.out 2
              have eT:=aa Ba.out 3
              have cT:=aa Ba.out 4
              have bT:=aa Ba.out 5
              have aT:=aa Ba.out 6
              go_wp2
              go_ret
              exact ⟨by first|rfl|(simp [La,Ka] <;> rfl)|(simp [*,La,Ka] <;> rfl),by repeat (first|(with_reducible first|exact HB.out|apply ia|apply ja|apply za|refine Aa ?_ Va.out|refine Aa ?_ Vb.out)|exact HB.out)⟩
            ·rw [if_neg c114] at H
             have KQ:(jc == 6)=false:=beq_eq_false_iff_ne.mpr c114
             have JQ:(jc != 6)=true:=bne_iff_ne.mpr c114
             obtain rfl:=Option.some.inj H
             have j_:=qb.out
             have R9:=Sa.out
             have GU:wc.cell? ⟨Ia,0,none⟩=some (.int .i64 jc):=(ga Ba.out 0).trans rfl
             have FU:wc.cell? ⟨Ia,1,none⟩=some (.int .i64 Lb):=(ga Ba.out 1).trans rfl
             have EU:wc.cell? ⟨Ia,2,none⟩=some (.int .i64 Sb):=(ga Ba.out 2).trans rfl
             have DU:wc.cell? ⟨Ia,3,none⟩=some (.int .i64 Ub):=(ga Ba.out 3).trans rfl
             have CU:wc.cell? ⟨Ia,4,none⟩=some (.int .i64 Fc):=(ga Ba.out 4).trans rfl
             have BU:wc.cell? ⟨Ia,5,none⟩=some (.int .i64 Bd):=(ga Ba.out 5).trans rfl
             have AU:wc.cell? ⟨Ia,6,none⟩=some (.string Rd):=(ga Ba.out 6).trans rfl
             have ZS:=aa Ba.out 0
             have YS:=aa Ba.out 1
             have XS:=aa Ba.out 2
             have WS:=aa Ba.out 3
             have VS:=aa Ba.out 4
             have US:=aa Ba.out 5
             have TS:=aa Ba.out 6
             go_wp2
             go_ret
             exact ⟨by first|rfl|(simp [La,Ka] <;> rfl)|(simp [*,La,Ka] <;> rfl),by repeat (first|(with_reducible first|exact HB.out|apply ia|apply ja|apply za|refine Aa ?_ Va.out|refine Aa ?_ Vb.out)|exact HB.out)⟩
end Go.Proofs.Ytmifdccaajngcaa.P
end
