import Derived.Test.YtmifdccaajngcaaProg
import Derived.Below
import Derived.Deep.Draws
import Derived.Deep.AppendLies
import Derived.Maps.AppendAt
import Derived.OwnWalk
import Derived.Laws.BytesArg
import Derived.Laws.MakeOwn
import Derived.Laws.OwnMore
import Derived.Deep.OwnRows
import Derived.Tactics
import Derived.Lib.ConvBytes
import Derived.Laws.Slices
import Derived.WalkKit
import Derived.KernelRfl
import Derived.RowKit3
import Derived.Deep.LoopGhost
import Derived.Deep.QuietTactic
import Derived.BigQuiet
import Derived.WideLaws
import Derived.Deep.DeepCutAuto
import Derived.Deep.CutBlock
import Derived.Deep.RegionHeld3
import Derived.Laws.Rows
import Derived.Lib.AppendStr
import Derived.ArgAppend
import Derived.Laws.IdiomCopy
import Derived.OrdersHeld
import Derived.Laws.BitsLemmas
import Derived.RowKit
import Derived.Test.YtmifdccaajngcaaQKnownW1
import Derived.Deep.Slices
import Derived.ChangeArms
import Derived.OpenShut
import Derived.WideShapes
section
namespace Go.Proofs.Ytmifdccaajngcaa.P
open Go.RowKit Go.Proofs.Na.mc Go.Proofs.Na.jf Go.Proofs.Na.xg
set_option linter.unusedVariables false
set_option linter.unusedSimpArgs false
attribute [local go_sem] Hj Fj Rk Qk Li Ki Gj Ej
def X2:Option Int→Value
 | none=>.nilIface
 | some c=>.iface 0 (.int .i64 c)
theorem La:X2 none = .nilIface:=rfl
theorem Ka (c:Int):X2 (some c) = .iface 0 (.int .i64 c):=rfl
theorem info3:(Try.prog.info? 3).map (fun i=>(i.zero,i.size,i.bytes))=some (some (.int .i64 0),1,8):=by kernel_rfl
theorem YS:(Try.prog.info? 68).map (fun i=>(i.zero,i.size,i.bytes))=some (some (.agg #[(.slice none 0 0),(.int .i64 0),(.int .i64 0),(.int .i64 0),(.int .i64 0)]),5,56):=by kernel_rfl
theorem XS:(Try.prog.info? 70).map (fun i=>(i.zero,i.size,i.bytes))=some (some (.agg #[(.int .i64 0),(.int .i64 0),(.int .i64 0),(.int .i64 0),(.int .i64 0),(.int .i64 0),(.string ⟨#[]⟩)]),7,64):=by kernel_rfl
theorem WS:(Try.prog.info? 77).map (fun i=>(i.zero,i.size,i.bytes))=some (some (.agg #[(.int .i64 0),(.int .i64 0)]),2,16):=by kernel_rfl
theorem VS:(Try.prog.info? 79).map (fun i=>(i.zero,i.size,i.bytes))=some (some (.agg #[(.int .i64 0),(.int .i64 0)]),2,16):=by kernel_rfl
structure S7 where
 f0:Int
 f1:Int
 f2:Bool
 f3:Int
def z7:S7:=⟨(0:Int),(0:Int),false,(0:Int)⟩
structure S8 where
 f0:Int
 f1:Int
 f2:Bool
 f3:Int
def z8:S8:=⟨(0:Int),(0:Int),false,(0:Int)⟩
structure gm where
 f0:Int
 f1:Int
 f2:Int
 f3:Int
 f4:Int
 f5:Int
 f6:ByteArray
def PV:gm:=⟨(0:Int),(0:Int),(0:Int),(0:Int),(0:Int),(0:Int),(⟨#[]⟩:ByteArray)⟩
def ay:Kd gm:=Kd.vI (Kd.pair (Kd.int .i64) (Kd.pair (Kd.int .i64) (Kd.pair (Kd.int .i64) (Kd.pair (Kd.int .i64) (Kd.pair (Kd.int .i64) (Kd.pair (Kd.int .i64) Kd.string)))))) (fun x:gm=>(x.f0,x.f1,x.f2,x.f3,x.f4,x.f5,x.f6))
theorem tI {w:World} {x:gm} {cs:List Value} (h:ay.K w x cs):cs=[.int .i64 x.f0,.int .i64 x.f1,.int .i64 x.f2,.int .i64 x.f3,.int .i64 x.f4,.int .i64 x.f5,.string x.f6]:=by
 obtain ⟨_,_,rfl,rfl,⟨_,_,rfl,rfl,⟨_,_,rfl,rfl,⟨_,_,rfl,rfl,⟨_,_,rfl,rfl,⟨_,_,rfl,rfl,rfl⟩⟩⟩⟩⟩⟩:=h
 exact rfl
def xd (xs:List gm) (i:Int):gm:=xs.getD i.toNat PV
theorem rB {w:World} {A:Option Addr} {n:Nat} {xs:List gm} (h:Kd.C ay w A n xs) (i:Int) (h0:0 ≤ i) (h1:i < n):∃ ad , A=some ad∧w.cell? (ad.add (i.toNat * 7))=some (.int .i64 (xd xs i).f0)∧w.cell? ⟨(ad.add (i.toNat * 7)).block,(ad.add (i.toNat * 7)).off + 1,none⟩=some (.int .i64 (xd xs i).f1)∧w.cell? ⟨(ad.add (i.toNat * 7)).block,(ad.add (i.toNat * 7)).off + 2,none⟩=some (.int .i64 (xd xs i).f2)∧w.cell? ⟨(ad.add (i.toNat * 7)).block,(ad.add (i.toNat * 7)).off + 3,none⟩=some (.int .i64 (xd xs i).f3)∧w.cell? ⟨(ad.add (i.toNat * 7)).block,(ad.add (i.toNat * 7)).off + 4,none⟩=some (.int .i64 (xd xs i).f4)∧w.cell? ⟨(ad.add (i.toNat * 7)).block,(ad.add (i.toNat * 7)).off + 5,none⟩=some (.int .i64 (xd xs i).f5)∧w.cell? ⟨(ad.add (i.toNat * 7)).block,(ad.add (i.toNat * 7)).off + 6,none⟩=some (.string (xd xs i).f6):=by
 obtain ⟨ad,c,e,_,hK,hc0⟩:=Kd.Ry h PV i h0 h1
 have hc:∀ j u,c[j]? = some u→w.cell? (ad.add (i.toNat * 7 + j))=some u:=hc0
 obtain rfl:=tI hK
 exact ⟨ad,e,hc 0 _ rfl,by rw [← Lf _ _ 1 (by omega)];exact hc 1 _ rfl,by rw [← Lf _ _ 2 (by omega)];exact hc 2 _ rfl,by rw [← Lf _ _ 3 (by omega)];exact hc 3 _ rfl,by rw [← Lf _ _ 4 (by omega)];exact hc 4 _ rfl,by rw [← Lf _ _ 5 (by omega)];exact hc 5 _ rfl,by rw [← Lf _ _ 6 (by omega)];exact hc 6 _ rfl⟩
structure Lk where
 f0:(List gm)
 f1:Int
 f2:Int
 f3:Int
 f4:Int
def QV:Lk:=⟨([]:List gm),(0:Int),(0:Int),(0:Int),(0:Int)⟩
def cy:Kd Lk:=Kd.vI (Kd.pair (Kd.slice 161 ay) (Kd.pair (Kd.int .i64) (Kd.pair (Kd.int .i64) (Kd.pair (Kd.int .i64) (Kd.int .i64))))) (fun x:Lk=>(x.f0,x.f1,x.f2,x.f3,x.f4))
theorem uI {w:World} {x:Lk} {cs:List Value} (h:cy.K w x cs):∃ A0 c0,cs=[.slice A0 x.f0.length c0,.int .i64 x.f1,.int .i64 x.f2,.int .i64 x.f3,.int .i64 x.f4]∧x.f0.length ≤ c0∧ay.C w A0 x.f0.length x.f0:=by
 obtain ⟨_,_,rfl,⟨A0,c0,rfl,l0,g0⟩,⟨_,_,rfl,rfl,⟨_,_,rfl,rfl,⟨_,_,rfl,rfl,rfl⟩⟩⟩⟩:=h
 exact ⟨A0,c0,rfl,l0,g0⟩
def Ae (xs:List Lk) (i:Int):Lk:=xs.getD i.toNat QV
theorem sB {w:World} {A:Option Addr} {n:Nat} {xs:List Lk} (h:Kd.C cy w A n xs) (i:Int) (h0:0 ≤ i) (h1:i < n):∃ ad A0 c0,A=some ad∧w.cell? (ad.add (i.toNat * 5))=some (.slice A0 (Ae xs i).f0.length c0)∧w.cell? ⟨(ad.add (i.toNat * 5)).block,(ad.add (i.toNat * 5)).off + 1,none⟩=some (.int .i64 (Ae xs i).f1)∧w.cell? ⟨(ad.add (i.toNat * 5)).block,(ad.add (i.toNat * 5)).off + 2,none⟩=some (.int .i64 (Ae xs i).f2)∧w.cell? ⟨(ad.add (i.toNat * 5)).block,(ad.add (i.toNat * 5)).off + 3,none⟩=some (.int .i64 (Ae xs i).f3)∧w.cell? ⟨(ad.add (i.toNat * 5)).block,(ad.add (i.toNat * 5)).off + 4,none⟩=some (.int .i64 (Ae xs i).f4)∧(Ae xs i).f0.length ≤ c0∧ay.C w A0 (Ae xs i).f0.length (Ae xs i).f0:=by
 obtain ⟨ad,c,e,_,hK,hc0⟩:=Kd.Ry h QV i h0 h1
 have hc:∀ j u,c[j]? = some u→w.cell? (ad.add (i.toNat * 5 + j))=some u:=hc0
 obtain ⟨A0,c0,rfl,l0,g0⟩:=uI hK
 exact ⟨ad,A0,c0,e,hc 0 _ rfl,by rw [← Lf _ _ 1 (by omega)];exact hc 1 _ rfl,by rw [← Lf _ _ 2 (by omega)];exact hc 2 _ rfl,by rw [← Lf _ _ 3 (by omega)];exact hc 3 _ rfl,by rw [← Lf _ _ 4 (by omega)];exact hc 4 _ rfl,l0,g0⟩
structure CV where
 f0:(List Int)
 f1:Int
 f2:Int
 f3:Int
 f4:(List Lk)
def k25:Kd CV:=Kd.vI (Kd.pair (Kd.slice 3 (Kd.int .i64)) (Kd.pair (Kd.int .i64) (Kd.pair (Kd.int .i64) (Kd.pair (Kd.int .i64) (Kd.slice 118 cy))))) (fun x:CV=>(x.f0,x.f1,x.f2,x.f3,x.f4))
theorem BJ {w:World} {x:CV} {cs:List Value} (h:k25.K w x cs):∃ A0 c0 A4 c4,cs=[.slice A0 x.f0.length c0,.int .i64 x.f1,.int .i64 x.f2,.int .i64 x.f3,.slice A4 x.f4.length c4]∧x.f0.length ≤ c0∧(Kd.int .i64).C w A0 x.f0.length x.f0∧x.f4.length ≤ c4∧cy.C w A4 x.f4.length x.f4:=by
 obtain ⟨_,_,rfl,⟨A0,c0,rfl,l0,g0⟩,⟨_,_,rfl,rfl,⟨_,_,rfl,rfl,⟨_,_,rfl,rfl,⟨A4,c4,rfl,l4,g4⟩⟩⟩⟩⟩:=h
 exact ⟨A0,c0,A4,c4,rfl,l0,g0,l4,g4⟩
structure Bf where
 f0:Int
 f1:Int
 f2:Int
 f3:Int
 f4:Int
 f5:Int
 f6:ByteArray
def Fq:Bf:=⟨(0:Int),(0:Int),(0:Int),(0:Int),(0:Int),(0:Int),(⟨#[]⟩:ByteArray)⟩
def Ij:Kd Bf:=Kd.vI (Kd.pair (Kd.int .i64) (Kd.pair (Kd.int .i64) (Kd.pair (Kd.int .i64) (Kd.pair (Kd.int .i64) (Kd.pair (Kd.int .i64) (Kd.pair (Kd.int .i64) Kd.string)))))) (fun x:Bf=>(x.f0,x.f1,x.f2,x.f3,x.f4,x.f5,x.f6))
theorem zJ {w:World} {x:Bf} {cs:List Value} (h:Ij.K w x cs):cs=[.int .i64 x.f0,.int .i64 x.f1,.int .i64 x.f2,.int .i64 x.f3,.int .i64 x.f4,.int .i64 x.f5,.string x.f6]:=by
 obtain ⟨_,_,rfl,rfl,⟨_,_,rfl,rfl,⟨_,_,rfl,rfl,⟨_,_,rfl,rfl,⟨_,_,rfl,rfl,⟨_,_,rfl,rfl,rfl⟩⟩⟩⟩⟩⟩:=h
 exact rfl
theorem Ug {w:World} {base:Nat} {ok:Nat→Prop} {x:Bf} {cs:List Value} (h:Ij.M w base ok x cs):cs=[.int .i64 x.f0,.int .i64 x.f1,.int .i64 x.f2,.int .i64 x.f3,.int .i64 x.f4,.int .i64 x.f5,.string x.f6]:=by
 obtain ⟨_,_,rfl,rfl,⟨_,_,rfl,rfl,⟨_,_,rfl,rfl,⟨_,_,rfl,rfl,⟨_,_,rfl,rfl,⟨_,_,rfl,rfl,rfl⟩⟩⟩⟩⟩⟩:=h
 exact rfl
theorem zm (w:World) (base:Nat) (ok:Nat→Prop) (x:Bf)  : Ij.M w base ok x [.int .i64 x.f0,.int .i64 x.f1,.int .i64 x.f2,.int .i64 x.f3,.int .i64 x.f4,.int .i64 x.f5,.string x.f6]:=⟨[.int .i64 x.f0],[.int .i64 x.f1,.int .i64 x.f2,.int .i64 x.f3,.int .i64 x.f4,.int .i64 x.f5,.string x.f6],rfl,rfl,⟨[.int .i64 x.f1],[.int .i64 x.f2,.int .i64 x.f3,.int .i64 x.f4,.int .i64 x.f5,.string x.f6],rfl,rfl,⟨[.int .i64 x.f2],[.int .i64 x.f3,.int .i64 x.f4,.int .i64 x.f5,.string x.f6],rfl,rfl,⟨[.int .i64 x.f3],[.int .i64 x.f4,.int .i64 x.f5,.string x.f6],rfl,rfl,⟨[.int .i64 x.f4],[.int .i64 x.f5,.string x.f6],rfl,rfl,⟨[.int .i64 x.f5],[.string x.f6],rfl,rfl,rfl⟩⟩⟩⟩⟩⟩
def Ja (xs:List Bf) (i:Int):Bf:=xs.getD i.toNat Fq
theorem tf {w:World} {A:Option Addr} {n:Nat} {xs:List Bf} (h:Kd.C Ij w A n xs) (i:Int) (h0:0 ≤ i) (h1:i < n):∃ ad , A=some ad∧w.cell? (ad.add (i.toNat * 7))=some (.int .i64 (Ja xs i).f0)∧w.cell? ⟨(ad.add (i.toNat * 7)).block,(ad.add (i.toNat * 7)).off + 1,none⟩=some (.int .i64 (Ja xs i).f1)∧w.cell? ⟨(ad.add (i.toNat * 7)).block,(ad.add (i.toNat * 7)).off + 2,none⟩=some (.int .i64 (Ja xs i).f2)∧w.cell? ⟨(ad.add (i.toNat * 7)).block,(ad.add (i.toNat * 7)).off + 3,none⟩=some (.int .i64 (Ja xs i).f3)∧w.cell? ⟨(ad.add (i.toNat * 7)).block,(ad.add (i.toNat * 7)).off + 4,none⟩=some (.int .i64 (Ja xs i).f4)∧w.cell? ⟨(ad.add (i.toNat * 7)).block,(ad.add (i.toNat * 7)).off + 5,none⟩=some (.int .i64 (Ja xs i).f5)∧w.cell? ⟨(ad.add (i.toNat * 7)).block,(ad.add (i.toNat * 7)).off + 6,none⟩=some (.string (Ja xs i).f6):=by
 obtain ⟨ad,c,e,_,hK,hc0⟩:=Kd.Ry h Fq i h0 h1
 have hc:∀ j u,c[j]? = some u→w.cell? (ad.add (i.toNat * 7 + j))=some u:=hc0
 obtain rfl:=zJ hK
 exact ⟨ad,e,hc 0 _ rfl,by rw [← Lf _ _ 1 (by omega)];exact hc 1 _ rfl,by rw [← Lf _ _ 2 (by omega)];exact hc 2 _ rfl,by rw [← Lf _ _ 3 (by omega)];exact hc 3 _ rfl,by rw [← Lf _ _ 4 (by omega)];exact hc 4 _ rfl,by rw [← Lf _ _ 5 (by omega)];exact hc 5 _ rfl,by rw [← Lf _ _ 6 (by omega)];exact hc 6 _ rfl⟩
structure gh where
 f0:(List Bf)
 f1:Int
 f2:Int
 f3:Int
 f4:Int
def CB:gh:=⟨([]:List Bf),(0:Int),(0:Int),(0:Int),(0:Int)⟩
def Wo:Kd gh:=Kd.vI (Kd.pair (Kd.slice 70 Ij) (Kd.pair (Kd.int .i64) (Kd.pair (Kd.int .i64) (Kd.pair (Kd.int .i64) (Kd.int .i64))))) (fun x:gh=>(x.f0,x.f1,x.f2,x.f3,x.f4))
theorem AJ {w:World} {x:gh} {cs:List Value} (h:Wo.K w x cs):∃ A0 c0,cs=[.slice A0 x.f0.length c0,.int .i64 x.f1,.int .i64 x.f2,.int .i64 x.f3,.int .i64 x.f4]∧x.f0.length ≤ c0∧Ij.C w A0 x.f0.length x.f0:=by
 obtain ⟨_,_,rfl,⟨A0,c0,rfl,l0,g0⟩,⟨_,_,rfl,rfl,⟨_,_,rfl,rfl,⟨_,_,rfl,rfl,rfl⟩⟩⟩⟩:=h
 exact ⟨A0,c0,rfl,l0,g0⟩
theorem Tu {w:World} {base:Nat} {ok:Nat→Prop} {x:gh} {cs:List Value} (h:Wo.M w base ok x cs):∃ v0,cs=[v0,.int .i64 x.f1,.int .i64 x.f2,.int .i64 x.f3,.int .i64 x.f4]∧Ij.R 70 w base ok v0 x.f0:=by
 obtain ⟨_,_,rfl,⟨v0,rfl,g0⟩,⟨_,_,rfl,rfl,⟨_,_,rfl,rfl,⟨_,_,rfl,rfl,rfl⟩⟩⟩⟩:=h
 exact ⟨v0,rfl,g0⟩
theorem Xz (w:World) (base:Nat) (ok:Nat→Prop) (x:gh) {v0:Value} (g0:Ij.R 70 w base ok v0 x.f0):Wo.M w base ok x [v0,.int .i64 x.f1,.int .i64 x.f2,.int .i64 x.f3,.int .i64 x.f4]:=⟨[v0],[.int .i64 x.f1,.int .i64 x.f2,.int .i64 x.f3,.int .i64 x.f4],rfl,⟨v0,rfl,g0⟩,⟨[.int .i64 x.f1],[.int .i64 x.f2,.int .i64 x.f3,.int .i64 x.f4],rfl,rfl,⟨[.int .i64 x.f2],[.int .i64 x.f3,.int .i64 x.f4],rfl,rfl,⟨[.int .i64 x.f3],[.int .i64 x.f4],rfl,rfl,rfl⟩⟩⟩⟩
def Xa (xs:List gh) (i:Int):gh:=xs.getD i.toNat CB
theorem cg {w:World} {A:Option Addr} {n:Nat} {xs:List gh} (h:Kd.C Wo w A n xs) (i:Int) (h0:0 ≤ i) (h1:i < n):∃ ad A0 c0,A=some ad∧w.cell? (ad.add (i.toNat * 5))=some (.slice A0 (Xa xs i).f0.length c0)∧w.cell? ⟨(ad.add (i.toNat * 5)).block,(ad.add (i.toNat * 5)).off + 1,none⟩=some (.int .i64 (Xa xs i).f1)∧w.cell? ⟨(ad.add (i.toNat * 5)).block,(ad.add (i.toNat * 5)).off + 2,none⟩=some (.int .i64 (Xa xs i).f2)∧w.cell? ⟨(ad.add (i.toNat * 5)).block,(ad.add (i.toNat * 5)).off + 3,none⟩=some (.int .i64 (Xa xs i).f3)∧w.cell? ⟨(ad.add (i.toNat * 5)).block,(ad.add (i.toNat * 5)).off + 4,none⟩=some (.int .i64 (Xa xs i).f4)∧(Xa xs i).f0.length ≤ c0∧Ij.C w A0 (Xa xs i).f0.length (Xa xs i).f0:=by
 obtain ⟨ad,c,e,_,hK,hc0⟩:=Kd.Ry h CB i h0 h1
 have hc:∀ j u,c[j]? = some u→w.cell? (ad.add (i.toNat * 5 + j))=some u:=hc0
 obtain ⟨A0,c0,rfl,l0,g0⟩:=AJ hK
 exact ⟨ad,A0,c0,e,hc 0 _ rfl,by rw [← Lf _ _ 1 (by omega)];exact hc 1 _ rfl,by rw [← Lf _ _ 2 (by omega)];exact hc 2 _ rfl,by rw [← Lf _ _ 3 (by omega)];exact hc 3 _ rfl,by rw [← Lf _ _ 4 (by omega)];exact hc 4 _ rfl,l0,g0⟩
structure S53 where
 f0:Int
 f1:Int
 f2:(List Int)
def z53:S53:=⟨(0:Int),(0:Int),([]:List Int)⟩
structure Lj where
 f0:Int
 f1:Int
def YI:Lj:=⟨(0:Int),(0:Int)⟩
def Jl:Kd Lj:=Kd.vI (Kd.pair (Kd.int .i64) (Kd.int .i64)) (fun x:Lj=>(x.f0,x.f1))
theorem yJ {w:World} {x:Lj} {cs:List Value} (h:Jl.K w x cs):cs=[.int .i64 x.f0,.int .i64 x.f1]:=by
 obtain ⟨_,_,rfl,rfl,rfl⟩:=h
 exact rfl
theorem rj {w:World} {base:Nat} {ok:Nat→Prop} {x:Lj} {cs:List Value} (h:Jl.M w base ok x cs):cs=[.int .i64 x.f0,.int .i64 x.f1]:=by
 obtain ⟨_,_,rfl,rfl,rfl⟩:=h
 exact rfl
theorem Mq (w:World) (base:Nat) (ok:Nat→Prop) (x:Lj)  : Jl.M w base ok x [.int .i64 x.f0,.int .i64 x.f1]:=⟨[.int .i64 x.f0],[.int .i64 x.f1],rfl,rfl,rfl⟩
def Ld (xs:List Lj) (i:Int):Lj:=xs.getD i.toNat YI
theorem Ls {w:World} {A:Option Addr} {n:Nat} {xs:List Lj} (h:Kd.C Jl w A n xs) (i:Int) (h0:0 ≤ i) (h1:i < n):∃ ad , A=some ad∧w.cell? (ad.add (i.toNat * 2))=some (.int .i64 (Ld xs i).f0)∧w.cell? ⟨(ad.add (i.toNat * 2)).block,(ad.add (i.toNat * 2)).off + 1,none⟩=some (.int .i64 (Ld xs i).f1):=by
 obtain ⟨ad,c,e,_,hK,hc0⟩:=Kd.Ry h YI i h0 h1
 have hc:∀ j u,c[j]? = some u→w.cell? (ad.add (i.toNat * 2 + j))=some u:=hc0
 obtain rfl:=yJ hK
 exact ⟨ad,e,hc 0 _ rfl,by rw [← Lf _ _ 1 (by omega)];exact hc 1 _ rfl⟩
structure S67 where
 f0:(List Bf)
 f1:Int
 f2:Int
 f3:Int
 f4:Int
def z67:S67:=⟨([]:List Bf),(0:Int),(0:Int),(0:Int),(0:Int)⟩
structure dm where
 f0:Int
 f1:Int
def yV:dm:=⟨(0:Int),(0:Int)⟩
def xM:Kd dm:=Kd.vI (Kd.pair (Kd.int .i64) (Kd.int .i64)) (fun x:dm=>(x.f0,x.f1))
theorem RB {w:World} {x:dm} {cs:List Value} (h:xM.K w x cs):cs=[.int .i64 x.f0,.int .i64 x.f1]:=by
 obtain ⟨_,_,rfl,rfl,rfl⟩:=h
 exact rfl
theorem PE (w:World) (base:Nat) (ok:Nat→Prop) (x:dm)  : xM.M w base ok x [.int .i64 x.f0,.int .i64 x.f1]:=⟨[.int .i64 x.f0],[.int .i64 x.f1],rfl,rfl,rfl⟩
def Bc (xs:List dm) (i:Int):dm:=xs.getD i.toNat yV
theorem qB {w:World} {A:Option Addr} {n:Nat} {xs:List dm} (h:Kd.C xM w A n xs) (i:Int) (h0:0 ≤ i) (h1:i < n):∃ ad , A=some ad∧w.cell? (ad.add (i.toNat * 2))=some (.int .i64 (Bc xs i).f0)∧w.cell? ⟨(ad.add (i.toNat * 2)).block,(ad.add (i.toNat * 2)).off + 1,none⟩=some (.int .i64 (Bc xs i).f1):=by
 obtain ⟨ad,c,e,_,hK,hc0⟩:=Kd.Ry h yV i h0 h1
 have hc:∀ j u,c[j]? = some u→w.cell? (ad.add (i.toNat * 2 + j))=some u:=hc0
 obtain rfl:=RB hK
 exact ⟨ad,e,hc 0 _ rfl,by rw [← Lf _ _ 1 (by omega)];exact hc 1 _ rfl⟩
structure S78 where
 f0:Int
 f1:Int
def z78:S78:=⟨(0:Int),(0:Int)⟩
structure S87 where
 f0:(List Int)
 f1:(List (List Int))
 f2:(List Int)
 f3:Int
 f4:S53
def z87:S87:=⟨([]:List Int),([]:List (List Int)),([]:List Int),(0:Int),z53⟩
structure S89 where
 f0:S87
 f1:(List Int)
def z89:S89:=⟨z87,([]:List Int)⟩
structure UI where
 f0:Int
 f1:Int
 f2:Int
 f3:ByteArray
 f4:(List UI)
def uV (d:Kd UI):Kd UI:=Kd.vI (Kd.pair (Kd.int .i64) (Kd.pair (Kd.int .i64) (Kd.pair (Kd.int .i64) (Kd.pair Kd.string (Kd.slice 172 d))))) (fun x:UI=>(x.f0,x.f1,x.f2,x.f3,x.f4))
theorem NS:Kd.Sub uV [172]:=Kd.KE _ (Kd.Ok (Kd.sub_const _ (by decide)) (Kd.Ok (Kd.sub_const _ (by decide)) (Kd.Ok (Kd.sub_const _ (by decide)) (Kd.Ok (Kd.sub_const _ (by decide)) (Kd.Ou 172 (by decide) Kd.fD)))))
theorem YV:∀ n,(Kd.upto uV 5 [172] n).sz=5:=Kd.IE (fun _=>rfl)
def zae:Kd UI:=Kd.fix uV 5 [172] YV (Kd.cD NS)
structure jv where
 f0:Int
 f1:Int
 f2:Int
 f3:(List UI)
 f4:(List jv)
 f5:(List jv)
def vV (d:Kd jv):Kd jv:=Kd.vI (Kd.pair (Kd.int .i64) (Kd.pair (Kd.int .i64) (Kd.pair (Kd.int .i64) (Kd.pair (Kd.slice 172 zae) (Kd.pair (Kd.slice 168 d) (Kd.slice 168 d)))))) (fun x:jv=>(x.f0,x.f1,x.f2,x.f3,x.f4,x.f5))
theorem PS:Kd.Sub vV [168,172]:=Kd.KE _ (Kd.Ok (Kd.sub_const _ (by decide)) (Kd.Ok (Kd.sub_const _ (by decide)) (Kd.Ok (Kd.sub_const _ (by decide)) (Kd.Ok (Kd.sub_const _ (by decide)) (Kd.Ok (Kd.Ou 168 (by decide) Kd.fD) (Kd.Ou 168 (by decide) Kd.fD))))))
theorem ZV:∀ n,(Kd.upto vV 6 [168,172] n).sz=6:=Kd.IE (fun _=>rfl)
def Aae:Kd jv:=Kd.fix vV 6 [168,172] ZV (Kd.cD PS)
theorem tJ {α:Type} {d:Kd α} {e:Nat} {w:World} {base:Nat} {ok:Nat→Prop} {v:Value} {xs:List α} (h:ja (d.R e w base ok v xs)):v.oneCell' = true:=by
 obtain ⟨A,c,rfl⟩:=Kd.Hf h.out
 rfl
theorem sJ {α:Type} {d:Kd α} {e:Nat} {w:World} {base:Nat} {ok:Nat→Prop} {v:Value} {xs:List α} (h:ja (d.S e w base ok v xs)):v.oneCell' = true:=by
 obtain ⟨A,c,rfl⟩:=Kd.Hf (Kd.UR h.out)
 rfl
theorem vJ {α:Type} {d:Kd α} {e:Nat} {w:World} {base:Nat} {ok:Nat→Prop} {v:Value} {xs:List α} (h:ja (Kd.N d e w base ok v xs)):v.oneCell' = true:=by
 obtain ⟨A,c,rfl⟩:=Kd.xQ h.out
 rfl
theorem uJ {α:Type} {d:Kd α} {e:Nat} {w:World} {base:Nat} {ok:Nat→Prop} {v:Value} {xs:List α} (h:ja (d.Q e w base ok v xs)):v.oneCell' = true:=by
 obtain ⟨A,c,rfl,_⟩:=Kd.wQ h.out
 rfl
def jm (P:Program) (t:TypeId) {α:Type} (d:Kd α) (fit:α→Prop):Prop :=
 ∀ {H:Type} {enc:TypeId × Value→H} {w:World} {base:Nat} {spare:Nat→Bool} {held:Bool} {fuel:Nat} {cs:List Value} {x:DataW H × List MemPlace},
  DataW.trod enc P w base spare held fuel t cs=some x→∃ a:α,d.K w a cs∧fit a
theorem qI {P:Program} {t:TypeId} {k:IntKind} (ht:P.underlying t=some (.int k)):jm P t (Kd.int k) (fun n=>(Lit.int k n).wf=true):=by
 intro H enc w base spare held fuel cs x h
 obtain ⟨n,rfl,_,hw⟩:=DataW.trod_int ht h
 exact ⟨n,rfl,hw⟩
def iq (n:Int):Prop:=-9223372036854775808 ≤ n∧n ≤ 9223372036854775807
theorem wf_i64 {n:Int} (h:(Lit.int .i64 n).wf=true):iq n:=by
 simp [Lit.wf,IntKind.min,IntKind.max,IntKind.signed,IntKind.bits] at h
 unfold iq
 omega
theorem qh {P:Program} {t:TypeId} (ht:P.underlying t=some (.int .i64)):jm P t (Kd.int .i64) iq:=by
 intro H enc w base spare held fuel cs x h
 obtain ⟨n,h1,h2⟩:=qI ht h
 exact ⟨n,h1,wf_i64 h2⟩
theorem Vz {P:Program} {t:TypeId} (ht:P.underlying t=some .string):jm P t Kd.string (fun s=>s.size ≤ 9223372036854775807):=by
 intro H enc w base spare held fuel cs x h
 obtain ⟨s,rfl,_,hw⟩:=DataW.trod_string ht h
 exact ⟨s,rfl,by simpa [maxLen] using hw⟩
theorem Jv {α:Type} {p:Nat→α→Prop}:∀ n,(∀ i,i < n→∃ a,p i a)→∃ xs:List α,xs.length=n∧∀ (i:Nat) (a:α),xs[i]? = some a→p i a
 | 0,_=>⟨[],rfl,fun i a h=>by simp at h⟩
 | n + 1,h=>by
  obtain ⟨xs,hl,hx⟩:=Jv n (fun i hi=>h i (by omega))
  obtain ⟨a,ha⟩:=h n (by omega)
  refine ⟨xs ++ [a],by simp [hl],fun i b hb=>?_⟩
  rcases Nat.lt_or_ge i xs.length with hi|hi
  ·rw [List.getElem?_append_left hi] at hb
   exact hx i b hb
  ·have:i=n:=by
    have:=(List.getElem?_eq_some_iff.1 hb).1
    simp [hl] at this
    omega
   subst this
   rw [List.getElem?_append_right hi,hl] at hb
   simp at hb
   exact hb ▸ ha
theorem vq {P:Program} {t e e':TypeId} {α:Type} {d:Kd α} {fit:α→Prop} (ht:P.underlying t=some (.slice e)) (hs:P.cellsOf e=d.sz) (h:jm P e d fit):jm P t (Kd.slice e' d) (fun l=>l.length ≤ 9223372036854775807∧∀ a ∈ l,fit a):=by
 intro H enc w base spare held fuel cs x hx
 rcases Go.Deep.open_slice ht hx with ⟨rfl,_⟩|⟨a,len,cap,m,n,D,Pl,rfl,hb,hl,hm,hmm,_,hel⟩
 ·exact ⟨[],⟨none,0,rfl,Nat.le_refl _,rfl,by simp,fun hp=>absurd hp (by simp)⟩,by simp,by simp⟩
 ·have hle:len ≤ m:=by rw [hmm];split <;> omega
  have zV:len ≤ 9223372036854775807:=by simp only [maxLen] at hm;omega
  obtain ⟨xs,hxl,hxs⟩:=Jv (α:=α) (p:=fun i y=>∃ c,c.length=d.sz∧d.K w y c∧(∀ j u,c[j]? = some u→w.cell? (a.add (i * d.sz + j))=some u)∧fit y) len (fun i hi=>by
   obtain ⟨cs',h1,h2⟩:=hel i (by omega)
   obtain ⟨y,hy,hf⟩:=h h2
   obtain ⟨_,CH,QD⟩:=World.cells?_some h1
   refine ⟨y,cs',by rw [CH,hs],hy,fun j u hu=>?_,hf⟩
   have hj:j < P.cellsOf e:=by rw [← CH];exact (List.getElem?_eq_some_iff.1 hu).1
   rw [← hs,← Go.Deep.add_add,QD j hj]
   exact hu)
  refine ⟨xs,⟨some a,cap,by rw [hxl],by omega,rfl,by omega,fun _=>⟨a,rfl,fun j p hj=>?_⟩⟩,by omega,fun y hy=>?_⟩
  ·obtain ⟨c,h1,h2,h3,_⟩:=hxs j p hj
   exact ⟨c,h1,h2,h3⟩
  ·obtain ⟨i,hi,rfl⟩:=List.getElem_of_mem hy
   obtain ⟨c,_,_,_,h4⟩:=hxs i _ (List.getElem?_eq_getElem hi)
   exact h4
def wB (P:Program) (fs:List Field) (off:Nat) {α:Type} (d:Kd α) (fit:α→Prop):Prop :=
 ∀ {H:Type} {enc:TypeId × Value→H} {w:World} {base:Nat} {spare:Nat→Bool} {held:Bool} {n:Nat} {cs:List Value},
  (∀ f ∈ fs,∃ y,DataW.trod enc P w base spare held n f.type ((cs.drop f.offset).take (P.cellsOf f.type))=some y)→cs.length=off + d.sz→∃ a:α,d.K w a (cs.drop off)∧fit a
theorem Gs {P:Program} {f:Field} {off:Nat} {α:Type} {d:Kd α} {fit:α→Prop} (ho:f.offset=off) (hs:P.cellsOf f.type=d.sz) (h:jm P f.type d fit):wB P [f] off d fit:=by
 intro H enc w base spare held n cs hf hl
 obtain ⟨y,hy⟩:=hf f (by simp)
 rw [ho,hs,List.take_of_length_le (by rw [List.length_drop];omega)] at hy
 exact h hy
theorem ug {P:Program} {f:Field} {fs:List Field} {off off2:Nat} {α β:Type} {d:Kd α} {d2:Kd β} {fit:α→Prop} {V2:β→Prop} (ho:f.offset=off) (hs:P.cellsOf f.type=d.sz) (E7:off2=off + d.sz) (h:jm P f.type d fit) (h2:wB P fs off2 d2 V2):wB P (f :: fs) off (Kd.pair d d2) (fun p=>fit p.1∧V2 p.2):=by
 intro H enc w base spare held n cs hf hl
 have hl':cs.length=off + (d.sz + d2.sz):=hl
 obtain ⟨y,hy⟩:=hf f (by simp)
 rw [ho,hs] at hy
 obtain ⟨a,ha,fa⟩:=h hy
 obtain ⟨b,hb,fb⟩:=h2 (fun g hg=>hf g (List.mem_cons_of_mem _ hg)) (by omega)
 refine ⟨(a,b),⟨(cs.drop off).take d.sz,cs.drop off2,?_,ha,hb⟩,fa,fb⟩
 rw [E7,← List.drop_drop,List.take_append_drop]
theorem qp {P:Program} {t:TypeId} {fs:Array Field} {α:Type} {d:Kd α} {fit:α→Prop} (ht:P.underlying t=some (.struct fs)) (hs:P.cellsOf t=d.sz) (h:wB P fs.toList 0 d fit):jm P t d fit:=by
 intro H enc w base spare held fuel cs x hx
 obtain ⟨xs,n,_,_,hl,hxl,hf⟩:=DataW.trod_struct ht hx
 have:=h (w:=w) (enc:=enc) (base:=base) (spare:=spare) (held:=held) (n:=n) (cs:=cs) (fun f hfm=>by
  obtain ⟨i,hi,rfl⟩:=List.getElem_of_mem hfm
  have hi':i < fs.size:=by simpa using hi
  have h1:=hf i (fs.toList[i]) (by simp [hi'])
  rw [List.getElem?_eq_getElem (by omega)] at h1
  exact ⟨_,h1⟩) (by omega)
 simpa using this
theorem Su {P:Program} {t:TypeId} {α β:Type} {d:Kd α} {fit:α→Prop} {g:β→α} (gi:α→β) (hg:∀ a,g (gi a)=a) (h:jm P t d fit):jm P t (Kd.vI d g) (fun b=>fit (g b)):=by
 intro H enc w base spare held fuel cs x hx
 obtain ⟨a,ha,hf⟩:=h hx
 refine ⟨gi a,?_,?_⟩
 ·show d.K w (g (gi a)) cs
  rw [hg]
  exact ha
 ·show fit (g (gi a))
  rw [hg]
  exact hf
theorem rJ {P:Program} {t:TypeId} {fs:Array Field} {α:Type} {d:Kd α} {fit:α→Prop} {r:Reach} {b0:Nat} {H:Type} {enc:TypeId × Value→H} {w:World} {base:Nat} {spare:Nat→Bool} {held:Bool} {v:Value} {dt:DataW H} {p:List MemPlace}
  (ht:P.underlying t=some (.struct fs)) (h:jm P t d fit) (hv:Value.okWide P w r b0 t v) (hd:DataW.Trod enc P w base spare held t v dt p) :
  ∃ (a:α) (cs:Array Value),v = .agg cs∧d.K w a cs.toList∧fit a:=by
 obtain ⟨cs,rfl,hsz⟩:=Go.WideShapes.okWide_struct ht hv
 obtain ⟨fuel,hf⟩:=hd
 obtain ⟨a,ha,hfa⟩:=h hf
 exact ⟨a,cs,rfl,by simpa [Value.cells] using ha,hfa⟩
theorem uM:jm Try.prog 22 (Kd.slice 3 (Kd.int .i64)) (fun l=>l.length ≤ 9223372036854775807∧∀ a ∈ l,iq a):=vq Try.underlying22 (by kernel_rfl) (qh Try.underlying3)
def SD (x:gm):Prop:=iq x.f0∧iq x.f1∧iq x.f2∧iq x.f3∧iq x.f4∧iq x.f5∧(fun s=>s.size ≤ 9223372036854775807) x.f6
theorem oJ:jm Try.prog 161 ay SD:=Su (fun p=>⟨p.1,p.2.1,p.2.2.1,p.2.2.2.1,p.2.2.2.2.1,p.2.2.2.2.2.1,p.2.2.2.2.2.2⟩) (fun _=>rfl) (qp Try.underlying161 (by kernel_rfl) (ug rfl (by kernel_rfl) (by kernel_rfl) (qh Try.underlying3) (ug rfl (by kernel_rfl) (by kernel_rfl) (qh Try.underlying3) (ug rfl (by kernel_rfl) (by kernel_rfl) (qh Try.underlying3) (ug rfl (by kernel_rfl) (by kernel_rfl) (qh Try.underlying3) (ug rfl (by kernel_rfl) (by kernel_rfl) (qh Try.underlying3) (ug rfl (by kernel_rfl) (by kernel_rfl) (qh Try.underlying3) (Gs rfl (by kernel_rfl) (Vz Try.underlying9)))))))))
theorem qJ:jm Try.prog 116 (Kd.slice 161 ay) (fun l=>l.length ≤ 9223372036854775807∧∀ a ∈ l,SD a):=vq Try.underlying116 (by kernel_rfl) oJ
def TD (x:Lk):Prop:=(fun l=>l.length ≤ 9223372036854775807∧∀ a ∈ l,SD a) x.f0∧iq x.f1∧iq x.f2∧iq x.f3∧iq x.f4
theorem pJ:jm Try.prog 118 cy TD:=Su (fun p=>⟨p.1,p.2.1,p.2.2.1,p.2.2.2.1,p.2.2.2.2⟩) (fun _=>rfl) (qp Try.underlying118 (by kernel_rfl) (ug rfl (by kernel_rfl) (by kernel_rfl) qJ (ug rfl (by kernel_rfl) (by kernel_rfl) (qh Try.underlying3) (ug rfl (by kernel_rfl) (by kernel_rfl) (qh Try.underlying3) (ug rfl (by kernel_rfl) (by kernel_rfl) (qh Try.underlying3) (Gs rfl (by kernel_rfl) (qh Try.underlying3)))))))
theorem sM:jm Try.prog 23 (Kd.slice 118 cy) (fun l=>l.length ≤ 9223372036854775807∧∀ a ∈ l,TD a):=vq Try.underlying23 (by kernel_rfl) pJ
def bL (x:CV):Prop:=(fun l=>l.length ≤ 9223372036854775807∧∀ a ∈ l,iq a) x.f0∧iq x.f1∧iq x.f2∧iq x.f3∧(fun l=>l.length ≤ 9223372036854775807∧∀ a ∈ l,TD a) x.f4
theorem rM:jm Try.prog 25 k25 bL:=Su (fun p=>⟨p.1,p.2.1,p.2.2.1,p.2.2.2.1,p.2.2.2.2⟩) (fun _=>rfl) (qp Try.underlying25 (by kernel_rfl) (ug rfl (by kernel_rfl) (by kernel_rfl) uM (ug rfl (by kernel_rfl) (by kernel_rfl) (qh Try.underlying3) (ug rfl (by kernel_rfl) (by kernel_rfl) (qh Try.underlying3) (ug rfl (by kernel_rfl) (by kernel_rfl) (qh Try.underlying3) (Gs rfl (by kernel_rfl) sM))))))
def ni.f (l0:List Int) (a1:Int):Option (Int):=if (wrap64 (a1 - (l0.length:Int))) < 0 then (some (-1)) else (some (wrap64 (a1 - (l0.length:Int))))
set_option maxHeartbeats 8000000 in
set_option maxRecDepth 100000 in
theorem ni.calls (A0:Option Addr) (c0:Nat) (l0:List Int) (a1:Int) (r:Int) (w:World) (hr0:Kd.C (Kd.int .i64) w A0 l0.length l0) (hc0:l0.length ≤ c0) (h:ni.f l0 a1=some r) :
  Calls Try.prog 51 #[.slice A0 l0.length c0,.int .i64 a1] w fun e w'=>e = .returned (.int .i64 r)∧uc w w':=by
 have Gh:=ja.mk hr0
 have dw:=ja.mk hc0
 clear hr0 hc0
 have H:(if (wrap64 (a1 - (l0.length:Int))) < 0 then (some (-1)) else (some (wrap64 (a1 - (l0.length:Int)))))=some r:=h
 clear h
 by_cases c3:(wrap64 (a1 - (l0.length:Int))) < 0
 ·rw [if_pos c3] at H
  have Zh:decide ((wrap64 (a1 - (l0.length:Int))) < 0)=true:=decide_eq_true c3
  clear c3
  obtain rfl:=Option.some.inj H
  go_enter Try.func51,Try.ntmps51
  go_wp2
  go_ret
  exact ⟨by first|rfl|(simp;done)|(simp [*];done),by repeat (first|exact uc.refl _|apply uc.step)⟩
 ·rw [if_neg c3] at H
  have Zh:decide ((wrap64 (a1 - (l0.length:Int))) < 0)=false:=decide_eq_false c3
  clear c3
  obtain rfl:=Option.some.inj H
  go_enter Try.func51,Try.ntmps51
  go_wp2
  go_ret
  exact ⟨by first|rfl|(simp;done)|(simp [*];done),by repeat (first|exact uc.refl _|apply uc.step)⟩
def Qi.f (Pc:Int) (Ma:Int) (Oa:Int) (Pa:Int) (nc:Int) (Od:Int) (Nd:ByteArray) (a1:Int):Option (Int):=if (wrap64 (a1 - (Nd.size:Int))) < 0 then (some (-1)) else (some (wrap64 (a1 - (Nd.size:Int))))
set_option maxHeartbeats 8000000 in
set_option maxRecDepth 100000 in
theorem Qi.calls (Pc:Int) (Ma:Int) (Oa:Int) (Pa:Int) (nc:Int) (Od:Int) (Nd:ByteArray) (a1:Int) (r:Int) (w:World) (h:Qi.f Pc Ma Oa Pa nc Od Nd a1=some r) :
  Calls Try.prog 127 #[.agg #[.int .i64 Pc,.int .i64 Ma,.int .i64 Oa,.int .i64 Pa,.int .i64 nc,.int .i64 Od,.string Nd],.int .i64 a1] w fun e w'=>e = .returned (.int .i64 r)∧Below w.heap.size w w':=by
 have PJ:=Try.underlying161
 have HB:=ja.mk (Below.refl w.heap.size w)
 have H:(if (wrap64 (a1 - (Nd.size:Int))) < 0 then (some (-1)) else (some (wrap64 (a1 - (Nd.size:Int)))))=some r:=h
 clear h
 by_cases c3:(wrap64 (a1 - (Nd.size:Int))) < 0
 ·rw [if_pos c3] at H
  have Zh:decide ((wrap64 (a1 - (Nd.size:Int))) < 0)=true:=decide_eq_true c3
  clear c3
  obtain rfl:=Option.some.inj H
  go_enter Try.func127,Try.ntmps127
  go_wp2_with (first|((with_reducible refine Kb (N:=2) rfl ?_);refine Eb ?hg (N:=2) ?hd (cs:=#[.int .i64 Pc,.int .i64 Ma,.int .i64 Oa,.int .i64 Pa,.int .i64 nc,.int .i64 Od,.string Nd]) (t:=161) ?hr ?_;(case hd=>rfl);(case hg=>rfl);(case hr=>first|(go_simp;done)|(go_simp;rfl));intro Ea hg w4 Tb hb;have Gb:=ja.mk (Qa (by repeat (first|(with_reducible first|exact HB.out|apply qa|apply ia|apply ua)|exact HB.out)) hb);have Vb:=ja.mk (Tb);have Ac:=ja.mk ((by rw [hg];exact (Ra (by repeat (first|(with_reducible first|exact HB.out|apply qa|apply ia|apply ua)|exact HB.out))):w.heap.size ≤ Ea));have ud:=ja.mk ((by rw [hg];exact (Ra (by repeat (first|(with_reducible first|exact HB.out|apply qa|apply ia|apply ua)|exact HB.out))):w.heap.size ≤ Ea));clear HB;have HB:=Gb;have za:=Vb;have Be:=Ac;have Wa:=ud;clear Gb Vb Ac ud;clear hb Tb hg;have bag:w4.cell? ⟨Ea,0,none⟩=some (.int .i64 Pc):=(ga za.out 0).trans rfl;have aag:w4.cell? ⟨Ea,1,none⟩=some (.int .i64 Ma):=(ga za.out 1).trans rfl;have Zaf:w4.cell? ⟨Ea,2,none⟩=some (.int .i64 Oa):=(ga za.out 2).trans rfl;have Yaf:w4.cell? ⟨Ea,3,none⟩=some (.int .i64 Pa):=(ga za.out 3).trans rfl;have Xaf:w4.cell? ⟨Ea,4,none⟩=some (.int .i64 nc):=(ga za.out 4).trans rfl;have Waf:w4.cell? ⟨Ea,5,none⟩=some (.int .i64 Od):=(ga za.out 5).trans rfl;have Vaf:w4.cell? ⟨Ea,6,none⟩=some (.string Nd):=(ga za.out 6).trans rfl;have zaf:=aa za.out 0;have yaf:=aa za.out 1;have xaf:=aa za.out 2;have waf:=aa za.out 3;have vaf:=aa za.out 4;have uaf:=aa za.out 5;have taf:=aa za.out 6))
  go_ret
  exact ⟨by first|rfl|(simp [La,Ka] <;> rfl)|(simp [*,La,Ka] <;> rfl),by repeat (first|(with_reducible first|exact HB.out|apply qa|apply ia|apply ua|refine Aa ?_ Wa.out)|exact HB.out)⟩
 ·rw [if_neg c3] at H
  have Zh:decide ((wrap64 (a1 - (Nd.size:Int))) < 0)=false:=decide_eq_false c3
  clear c3
  obtain rfl:=Option.some.inj H
  go_enter Try.func127,Try.ntmps127
  go_wp2_with (first|((with_reducible refine Kb (N:=2) rfl ?_);refine Eb ?hg (N:=2) ?hd (cs:=#[.int .i64 Pc,.int .i64 Ma,.int .i64 Oa,.int .i64 Pa,.int .i64 nc,.int .i64 Od,.string Nd]) (t:=161) ?hr ?_;(case hd=>rfl);(case hg=>rfl);(case hr=>first|(go_simp;done)|(go_simp;rfl));intro Ea hg w6 Tb hb;have Gb:=ja.mk (Qa (by repeat (first|(with_reducible first|exact HB.out|apply qa|apply ia|apply ua)|exact HB.out)) hb);have Vb:=ja.mk (Tb);have Ac:=ja.mk ((by rw [hg];exact (Ra (by repeat (first|(with_reducible first|exact HB.out|apply qa|apply ia|apply ua)|exact HB.out))):w.heap.size ≤ Ea));have ud:=ja.mk ((by rw [hg];exact (Ra (by repeat (first|(with_reducible first|exact HB.out|apply qa|apply ia|apply ua)|exact HB.out))):w.heap.size ≤ Ea));clear HB;have HB:=Gb;have za:=Vb;have Be:=Ac;have Wa:=ud;clear Gb Vb Ac ud;clear hb Tb hg;have Tp:w6.cell? ⟨Ea,0,none⟩=some (.int .i64 Pc):=(ga za.out 0).trans rfl;have Sp:w6.cell? ⟨Ea,1,none⟩=some (.int .i64 Ma):=(ga za.out 1).trans rfl;have Rp:w6.cell? ⟨Ea,2,none⟩=some (.int .i64 Oa):=(ga za.out 2).trans rfl;have Qp:w6.cell? ⟨Ea,3,none⟩=some (.int .i64 Pa):=(ga za.out 3).trans rfl;have Pp:w6.cell? ⟨Ea,4,none⟩=some (.int .i64 nc):=(ga za.out 4).trans rfl;have BK:w6.cell? ⟨Ea,5,none⟩=some (.int .i64 Od):=(ga za.out 5).trans rfl;have AK:w6.cell? ⟨Ea,6,none⟩=some (.string Nd):=(ga za.out 6).trans rfl;have Dp:=aa za.out 0;have Cp:=aa za.out 1;have Bp:=aa za.out 2;have Ap:=aa za.out 3;have zp:=aa za.out 4;have dK:=aa za.out 5;have cK:=aa za.out 6))
  go_ret
  exact ⟨by first|rfl|(simp [La,Ka] <;> rfl)|(simp [*,La,Ka] <;> rfl),by repeat (first|(with_reducible first|exact HB.out|apply qa|apply ia|apply ua|refine Aa ?_ Wa.out)|exact HB.out)⟩
def Wc.l0:Nat→List (gm)→Int→Int→Option (Int)
 | 0,_,_,_=>none
 | k + 1,x0,x1,x5=>if x5 < (x0.length:Int) then (if 0 ≤ x5 then ((Qi.f ((xd x0 x5).f0) ((xd x0 x5).f1) ((xd x0 x5).f2) ((xd x0 x5).f3) ((xd x0 x5).f4) ((xd x0 x5).f5) ((xd x0 x5).f6) x1).bind fun t102=>(if t102 < 0 then (some (-1)) else (Wc.l0 k x0 t102 (wrap64 (x5 + 1))))) else (none)) else (some x1)
def Wc.f (k:Nat) (l0:List (gm)) (a1:Int):Option (Int):=if (wrap64 (a1 - (l0.length:Int))) < 0 then (some (-1)) else (Wc.l0 k l0 (wrap64 (a1 - (l0.length:Int))) 0)
theorem Wc.Sd:∀ k,(∀ y0 y1 y2,Lb (Wc.l0 k y0 y1 y2) (Wc.l0 (k + 1) y0 y1 y2))
 | 0=>fun _ _ _ r h=>by simp [Wc.l0] at h
 | k + 1=>by
  have Ff:=Wc.Sd k
  ·intro y0 y1 y2
   unfold Wc.l0
   repeat' first
   | (with_reducible exact Ff _ _ _)
   | (with_reducible exact Lb.refl _)
   | (with_reducible exact Lb.none _)
   | (with_reducible refine Lb.ite ?_ ?_)
   | (with_reducible refine Lb.bind ?_ (fun _=>?_))
   | exact Ff _ _ _
   | exact Lb.none _
   | refine Lb.ite ?_ ?_
   | refine Lb.bind ?_ (fun _=>?_)
theorem Wc.mono:∀ a0 a1 k,Lb (Wc.f k a0 a1) (Wc.f (k + 1) a0 a1):=by
 intro a0 a1 k
 have Ff:=Wc.Sd k
 unfold Wc.f
 repeat' first
   | (with_reducible exact Ff _ _ _)
   | (with_reducible exact Lb.refl _)
   | (with_reducible exact Lb.none _)
   | (with_reducible refine Lb.ite ?_ ?_)
   | (with_reducible refine Lb.bind ?_ (fun _=>?_))
   | exact Ff _ _ _
   | exact Lb.none _
   | refine Lb.ite ?_ ?_
   | refine Lb.bind ?_ (fun _=>?_)
set_option maxHeartbeats 8000000 in
set_option maxRecDepth 100000 in
theorem Wc.calls (k:Nat) (A0:Option Addr) (c0:Nat) (l0:List (gm)) (a1:Int) (r:Int) (w:World) (hr0:Kd.C ay w A0 l0.length l0) (hc0:l0.length ≤ c0) (h:Wc.f k l0 a1=some r) :
  Calls Try.prog 110 #[.slice A0 l0.length c0,.int .i64 a1] w fun e w'=>e = .returned (.int .i64 r)∧Below w.heap.size w w':=by
 have PJ:=Try.underlying161
 have Gh:=ja.mk hr0
 have dw:=ja.mk hc0
 clear hr0 hc0
 have HB:=ja.mk (Below.refl w.heap.size w)
 have H:(if (wrap64 (a1 - (l0.length:Int))) < 0 then (some (-1)) else (Wc.l0 k l0 (wrap64 (a1 - (l0.length:Int))) 0))=some r:=h
 clear h
 by_cases c3:(wrap64 (a1 - (l0.length:Int))) < 0
 ·rw [if_pos c3] at H
  have Zh:decide ((wrap64 (a1 - (l0.length:Int))) < 0)=true:=decide_eq_true c3
  clear c3
  obtain rfl:=Option.some.inj H
  go_enter Try.func110,Try.ntmps110
  go_wp2
  go_ret
  exact ⟨by first|rfl|(simp [La,Ka] <;> rfl)|(simp [*,La,Ka] <;> rfl),by repeat (first|(with_reducible first|exact HB.out|apply qa|apply ia|apply ua)|exact HB.out)⟩
 ·rw [if_neg c3] at H
  have Zh:decide ((wrap64 (a1 - (l0.length:Int))) < 0)=false:=decide_eq_false c3
  clear c3
  have H':=ja.mk H
  clear H
  go_enter Try.func110,Try.ntmps110
  go_wp2
  go_loopg [1,5] k (fun kq v1 v5 w'=>∃ (Md:Int) (Ia:Int),v1 = .int .i64 Md∧v5 = .int .i64 Ia∧ja (Wc.l0 kq l0 Md Ia=some r)∧ja (kq ≤ k)∧ja (Below w.heap.size w w'))
  case atStart=>exact ⟨(wrap64 (a1 - (l0.length:Int))),(0),(by first|rfl|(simp;done)|(simp [*];done)),(by first|rfl|(simp;done)|(simp [*];done)),H',⟨Nat.le_refl _⟩,⟨by repeat (first|(with_reducible first|exact HB.out|apply qa|apply ia|apply ua)|exact HB.out)⟩⟩
  case round =>
   clear H'
   try clear c1
   try clear p2
   try clear c3
   try clear Zh
   (try clear HA)
   (try clear Yg)
   (try clear HB)
   obtain ⟨Md,Ia,rfl,rfl,HA,Yg,HB⟩:=hrel
   cases gk with
   | zero=>exact absurd HA.out (by simp [Wc.l0])
   | succ k1 =>
    have H:=HA.out
    clear HA
    simp only [Wc.l0] at H
    by_cases c4:Ia < (l0.length:Int)
    ·rw [if_pos c4] at H
     have Gi:decide (Ia < (l0.length:Int))=true:=decide_eq_true c4
     clear c4
     by_cases c5:0 ≤ Ia
     ·rw [if_pos c5] at H
      have Il:decide (0 ≤ Ia)=true:=decide_eq_true c5
      clear c5
      replace H:=Option.bind_eq_some_iff.mp H
      obtain ⟨t102,wS,H⟩:=H
      replace H:(if t102 < 0 then (some (-1)) else (Wc.l0 k1 l0 t102 (wrap64 (Ia + 1))))=some r:=H
      have A6:=ja.mk wS
      clear wS
      by_cases c7:t102 < 0
      ·rw [if_pos c7] at H
       have bp:decide (t102 < 0)=true:=decide_eq_true c7
       clear c7
       obtain rfl:=Option.some.inj H
       have Je:0 ≤ (Ia:Int):=of_decide_eq_true (by first|(with_reducible assumption)|assumption)
       have Ie:Ia < (l0.length:Int):=of_decide_eq_true (by first|(with_reducible assumption)|assumption)
       obtain ⟨Gc,Tg,Ub,ic,fc,dc,Zb,ze,ye⟩:=rB Gh.out Ia Je Ie
       cases Tg
       replace Ub:=(HB.out.cell (World.block_lt_of_cell? w _ Ub)).trans Ub
       replace ic:=(HB.out.cell (World.block_lt_of_cell? w _ ic)).trans ic
       replace fc:=(HB.out.cell (World.block_lt_of_cell? w _ fc)).trans fc
       replace dc:=(HB.out.cell (World.block_lt_of_cell? w _ dc)).trans dc
       replace Zb:=(HB.out.cell (World.block_lt_of_cell? w _ Zb)).trans Zb
       replace ze:=(HB.out.cell (World.block_lt_of_cell? w _ ze)).trans ze
       replace ye:=(HB.out.cell (World.block_lt_of_cell? w _ ye)).trans ye
       replace Je:=eq_true Je
       replace Ie:=eq_true Ie
       go_wp2_with (first|((with_reducible refine mb (f:=127) rfl ?_);refine yd (some 23) rfl rfl Try.func127 (by kernel_rfl) rfl #[.agg #[.int .i64 ((xd l0 Ia).f0),.int .i64 ((xd l0 Ia).f1),.int .i64 ((xd l0 Ia).f2),.int .i64 ((xd l0 Ia).f3),.int .i64 ((xd l0 Ia).f4),.int .i64 ((xd l0 Ia).f5),.string ((xd l0 Ia).f6)],.int .i64 Md] rfl (by (try simp only [List.map_toArray,List.map_cons,List.map_nil]);first|done|rfl|(simp only [List.length_drop,List.length_take];rfl)) ?_;(with_reducible refine (Qi.calls ((xd l0 Ia).f0) ((xd l0 Ia).f1) ((xd l0 Ia).f2) ((xd l0 Ia).f3) ((xd l0 Ia).f4) ((xd l0 Ia).f5) ((xd l0 Ia).f6) Md t102 _ A6.out).mono ?_);rintro e w8 ⟨rfl,hb⟩;refine ⟨_,rfl,?_⟩;have Gb:=ja.mk (Qa (by repeat (first|(with_reducible first|exact HB.out|apply qa|apply ia|apply ua)|exact HB.out)) hb);clear HB;have HB:=Gb;clear Gb;(try clear hb);(try clear hb2);(try clear hk);(try clear hi)))
       go_ret
       exact ⟨by first|rfl|(simp [La,Ka] <;> rfl)|(simp [*,La,Ka] <;> rfl),by repeat (first|(with_reducible first|exact HB.out|apply qa|apply ia|apply ua)|exact HB.out)⟩
      ·rw [if_neg c7] at H
       have bp:decide (t102 < 0)=false:=decide_eq_false c7
       clear c7
       have H':=ja.mk H
       clear H
       have Je:0 ≤ (Ia:Int):=of_decide_eq_true (by first|(with_reducible assumption)|assumption)
       have Ie:Ia < (l0.length:Int):=of_decide_eq_true (by first|(with_reducible assumption)|assumption)
       obtain ⟨Gc,Tg,Ub,ic,fc,dc,Zb,ze,ye⟩:=rB Gh.out Ia Je Ie
       cases Tg
       replace Ub:=(HB.out.cell (World.block_lt_of_cell? w _ Ub)).trans Ub
       replace ic:=(HB.out.cell (World.block_lt_of_cell? w _ ic)).trans ic
       replace fc:=(HB.out.cell (World.block_lt_of_cell? w _ fc)).trans fc
       replace dc:=(HB.out.cell (World.block_lt_of_cell? w _ dc)).trans dc
       replace Zb:=(HB.out.cell (World.block_lt_of_cell? w _ Zb)).trans Zb
       replace ze:=(HB.out.cell (World.block_lt_of_cell? w _ ze)).trans ze
       replace ye:=(HB.out.cell (World.block_lt_of_cell? w _ ye)).trans ye
       replace Je:=eq_true Je
       replace Ie:=eq_true Ie
       go_wp2_with (first|((with_reducible refine mb (f:=127) rfl ?_);refine yd (some 23) rfl rfl Try.func127 (by kernel_rfl) rfl #[.agg #[.int .i64 ((xd l0 Ia).f0),.int .i64 ((xd l0 Ia).f1),.int .i64 ((xd l0 Ia).f2),.int .i64 ((xd l0 Ia).f3),.int .i64 ((xd l0 Ia).f4),.int .i64 ((xd l0 Ia).f5),.string ((xd l0 Ia).f6)],.int .i64 Md] rfl (by (try simp only [List.map_toArray,List.map_cons,List.map_nil]);first|done|rfl|(simp only [List.length_drop,List.length_take];rfl)) ?_;(with_reducible refine (Qi.calls ((xd l0 Ia).f0) ((xd l0 Ia).f1) ((xd l0 Ia).f2) ((xd l0 Ia).f3) ((xd l0 Ia).f4) ((xd l0 Ia).f5) ((xd l0 Ia).f6) Md t102 _ A6.out).mono ?_);rintro e w9 ⟨rfl,hb⟩;refine ⟨_,rfl,?_⟩;have Gb:=ja.mk (Qa (by repeat (first|(with_reducible first|exact HB.out|apply qa|apply ia|apply ua)|exact HB.out)) hb);clear HB;have HB:=Gb;clear Gb;(try clear hb);(try clear hb2);(try clear hk);(try clear hi)))
       go_roundg k1
       case measure=>have:=Yg.out;omega
       case rel=>exact ⟨(t102),(wrap64 (Ia + 1)),(by first|rfl|(simp;done)|(simp [*];done)),(by first|rfl|(simp;done)|(simp [*];done)),H',⟨by have:=Yg.out;omega⟩,⟨by repeat (first|(with_reducible first|exact HB.out|apply qa|apply ia|apply ua)|exact HB.out)⟩⟩
     ·rw [if_neg c5] at H
      exact absurd H (by simp)
    ·rw [if_neg c4] at H
     have Gi:decide (Ia < (l0.length:Int))=false:=decide_eq_false c4
     clear c4
     obtain rfl:=Option.some.inj H
     go_wp2
     go_ret
     exact ⟨by first|rfl|(simp [La,Ka] <;> rfl)|(simp [*,La,Ka] <;> rfl),by repeat (first|(with_reducible first|exact HB.out|apply qa|apply ia|apply ua)|exact HB.out)⟩
def Mf.f (k:Nat) (Ta:List (gm)) (Ma:Int) (Oa:Int) (Pa:Int) (nc:Int) (a1:Int):Option (Int):=(Wc.f k Ta a1).bind fun t102=>(if t102 < 0 then (some (-1)) else (some t102))
theorem Mf.mono:∀ a0 a1 a2 a3 a4 a5 k,Lb (Mf.f k a0 a1 a2 a3 a4 a5) (Mf.f (k + 1) a0 a1 a2 a3 a4 a5):=by
 intro a0 a1 a2 a3 a4 a5 k
 unfold Mf.f
 repeat' first
   | (with_reducible exact Wc.mono _ _ _)
   | (with_reducible exact Lb.refl _)
   | (with_reducible exact Lb.none _)
   | (with_reducible refine Lb.ite ?_ ?_)
   | (with_reducible refine Lb.bind ?_ (fun _=>?_))
   | exact Wc.mono _ _ _
   | exact Lb.none _
   | refine Lb.ite ?_ ?_
   | refine Lb.bind ?_ (fun _=>?_)
set_option maxHeartbeats 8000000 in
set_option maxRecDepth 100000 in
theorem Mf.calls (k:Nat) (Cb:Option Addr) (Bb:Nat) (Ta:List (gm)) (Ma:Int) (Oa:Int) (Pa:Int) (nc:Int) (a1:Int) (r:Int) (w:World) (Rf:Kd.C ay w Cb Ta.length Ta) (Pf:Ta.length ≤ Bb) (h:Mf.f k Ta Ma Oa Pa nc a1=some r) :
  Calls Try.prog 86 #[.agg #[.slice Cb Ta.length Bb,.int .i64 Ma,.int .i64 Oa,.int .i64 Pa,.int .i64 nc],.int .i64 a1] w fun e w'=>e = .returned (.int .i64 r)∧Below w.heap.size w w':=by
 have QJ:=Try.underlying118
 have ig:=ja.mk Rf
 have mg:=ja.mk Pf
 clear Rf Pf
 have HB:=ja.mk (Below.refl w.heap.size w)
 have H:((Wc.f k Ta a1).bind fun t102=>(if t102 < 0 then (some (-1)) else (some t102)))=some r:=h
 clear h
 replace H:=Option.bind_eq_some_iff.mp H
 obtain ⟨t102,Pv,H⟩:=H
 replace H:(if t102 < 0 then (some (-1)) else (some t102))=some r:=H
 have A3:=ja.mk Pv
 clear Pv
 by_cases c4:t102 < 0
 ·rw [if_pos c4] at H
  have Gi:decide (t102 < 0)=true:=decide_eq_true c4
  clear c4
  obtain rfl:=Option.some.inj H
  go_enter Try.func86,Try.ntmps86
  go_wp2_with (first|((with_reducible refine Kb (N:=2) rfl ?_);refine Eb ?hg (N:=2) ?hd (cs:=#[.slice Cb Ta.length Bb,.int .i64 Ma,.int .i64 Oa,.int .i64 Pa,.int .i64 nc]) (t:=118) ?hr ?_;(case hd=>rfl);(case hg=>rfl);(case hr=>first|(go_simp;done)|(go_simp;rfl));intro Ea hg w5 Tb hb;have Gb:=ja.mk (Qa (by repeat (first|(with_reducible first|exact HB.out|apply qa|apply ia|apply ua)|exact HB.out)) hb);have Vb:=ja.mk (Tb);have Ac:=ja.mk ((by rw [hg];exact (Ra (by repeat (first|(with_reducible first|exact HB.out|apply qa|apply ia|apply ua)|exact HB.out))):w.heap.size ≤ Ea));have ud:=ja.mk ((by rw [hg];exact (Ra (by repeat (first|(with_reducible first|exact HB.out|apply qa|apply ia|apply ua)|exact HB.out))):w.heap.size ≤ Ea));clear HB;have HB:=Gb;have za:=Vb;have Be:=Ac;have Wa:=ud;clear Gb Vb Ac ud;clear hb Tb hg;have IK:w5.cell? ⟨Ea,0,none⟩=some (.slice Cb Ta.length Bb):=(ga za.out 0).trans rfl;have GK:w5.cell? ⟨Ea,1,none⟩=some (.int .i64 Ma):=(ga za.out 1).trans rfl;have EK:w5.cell? ⟨Ea,2,none⟩=some (.int .i64 Oa):=(ga za.out 2).trans rfl;have DK:w5.cell? ⟨Ea,3,none⟩=some (.int .i64 Pa):=(ga za.out 3).trans rfl;have CK:w5.cell? ⟨Ea,4,none⟩=some (.int .i64 nc):=(ga za.out 4).trans rfl;have jK:=aa za.out 0;have iK:=aa za.out 1;have gK:=aa za.out 2;have fK:=aa za.out 3;have eK:=aa za.out 4)|((with_reducible refine mb (f:=110) rfl ?_);refine yd (some 8) rfl rfl Try.func110 (by kernel_rfl) rfl #[.slice Cb Ta.length Bb,.int .i64 a1] rfl (by (try simp only [List.map_toArray,List.map_cons,List.map_nil]);first|done|rfl|(simp only [List.length_drop,List.length_take];rfl)) ?_;(with_reducible refine (Wc.calls k _ _ Ta a1 t102 _ ?side1 ?side2 A3.out).mono ?_);(case side1=>repeat (first|exact (Kd.Mb ig.out HB.out)|(with_reducible refine Kd.Sc ?_ _)|(with_reducible refine Kd.Rc ?_ _)|(with_reducible refine Kd.Qd ?_)));(case side2=>exact mg.out);rintro e w7 ⟨rfl,hb⟩;refine ⟨_,rfl,?_⟩;have Gb:=ja.mk (gb (g:=Ea) (o:=.cells #[.slice Cb Ta.length Bb,.int .i64 Ma,.int .i64 Oa,.int .i64 Pa,.int .i64 nc] 118 (0,0)) (by (with_reducible repeat (first|refine Da ?_ _|refine Ga ?_|refine Ca ?_ _));exact za.out) hb);have Vb:=ja.mk (Qa (by repeat (first|(with_reducible first|exact HB.out|apply qa|apply ia|apply ua|refine Aa ?_ Wa.out)|exact HB.out)) hb);clear za;clear HB;have za:=Gb;have HB:=Vb;clear Gb Vb;(try clear hb);(try clear hb2);(try clear hk);(try clear hi)))
  go_ret
  exact ⟨by first|rfl|(simp [La,Ka] <;> rfl)|(simp [*,La,Ka] <;> rfl),by repeat (first|(with_reducible first|exact HB.out|apply qa|apply ia|apply ua|refine Aa ?_ Wa.out)|exact HB.out)⟩
 ·rw [if_neg c4] at H
  have Gi:decide (t102 < 0)=false:=decide_eq_false c4
  clear c4
  obtain rfl:=Option.some.inj H
  go_enter Try.func86,Try.ntmps86
  go_wp2_with (first|((with_reducible refine Kb (N:=2) rfl ?_);refine Eb ?hg (N:=2) ?hd (cs:=#[.slice Cb Ta.length Bb,.int .i64 Ma,.int .i64 Oa,.int .i64 Pa,.int .i64 nc]) (t:=118) ?hr ?_;(case hd=>rfl);(case hg=>rfl);(case hr=>first|(go_simp;done)|(go_simp;rfl));intro Ea hg w8 Tb hb;have Gb:=ja.mk (Qa (by repeat (first|(with_reducible first|exact HB.out|apply qa|apply ia|apply ua)|exact HB.out)) hb);have Vb:=ja.mk (Tb);have Ac:=ja.mk ((by rw [hg];exact (Ra (by repeat (first|(with_reducible first|exact HB.out|apply qa|apply ia|apply ua)|exact HB.out))):w.heap.size ≤ Ea));have ud:=ja.mk ((by rw [hg];exact (Ra (by repeat (first|(with_reducible first|exact HB.out|apply qa|apply ia|apply ua)|exact HB.out))):w.heap.size ≤ Ea));clear HB;have HB:=Gb;have za:=Vb;have Be:=Ac;have Wa:=ud;clear Gb Vb Ac ud;clear hb Tb hg;have Mo:w8.cell? ⟨Ea,0,none⟩=some (.slice Cb Ta.length Bb):=(ga za.out 0).trans rfl;have Lo:w8.cell? ⟨Ea,1,none⟩=some (.int .i64 Ma):=(ga za.out 1).trans rfl;have Ko:w8.cell? ⟨Ea,2,none⟩=some (.int .i64 Oa):=(ga za.out 2).trans rfl;have Jo:w8.cell? ⟨Ea,3,none⟩=some (.int .i64 Pa):=(ga za.out 3).trans rfl;have Io:w8.cell? ⟨Ea,4,none⟩=some (.int .i64 nc):=(ga za.out 4).trans rfl;have Ho:=aa za.out 0;have Fo:=aa za.out 1;have Eo:=aa za.out 2;have Co:=aa za.out 3;have Bo:=aa za.out 4)|((with_reducible refine mb (f:=110) rfl ?_);refine yd (some 8) rfl rfl Try.func110 (by kernel_rfl) rfl #[.slice Cb Ta.length Bb,.int .i64 a1] rfl (by (try simp only [List.map_toArray,List.map_cons,List.map_nil]);first|done|rfl|(simp only [List.length_drop,List.length_take];rfl)) ?_;(with_reducible refine (Wc.calls k _ _ Ta a1 t102 _ ?side1 ?side2 A3.out).mono ?_);(case side1=>repeat (first|exact (Kd.Mb ig.out HB.out)|(with_reducible refine Kd.Sc ?_ _)|(with_reducible refine Kd.Rc ?_ _)|(with_reducible refine Kd.Qd ?_)));(case side2=>exact mg.out);rintro e Hq ⟨rfl,hb⟩;refine ⟨_,rfl,?_⟩;have Gb:=ja.mk (gb (g:=Ea) (o:=.cells #[.slice Cb Ta.length Bb,.int .i64 Ma,.int .i64 Oa,.int .i64 Pa,.int .i64 nc] 118 (0,0)) (by (with_reducible repeat (first|refine Da ?_ _|refine Ga ?_|refine Ca ?_ _));exact za.out) hb);have Vb:=ja.mk (Qa (by repeat (first|(with_reducible first|exact HB.out|apply qa|apply ia|apply ua|refine Aa ?_ Wa.out)|exact HB.out)) hb);clear za;clear HB;have za:=Gb;have HB:=Vb;clear Gb Vb;(try clear hb);(try clear hb2);(try clear hk);(try clear hi)))
  go_ret
  exact ⟨by first|rfl|(simp [La,Ka] <;> rfl)|(simp [*,La,Ka] <;> rfl),by repeat (first|(with_reducible first|exact HB.out|apply qa|apply ia|apply ua|refine Aa ?_ Wa.out)|exact HB.out)⟩
def Uc.l0:Nat→List (Lk)→Int→Int→Option (Int)
 | 0,_,_,_=>none
 | k + 1,x0,x1,x5=>if x5 < (x0.length:Int) then (if 0 ≤ x5 then ((Mf.f k ((Ae x0 x5).f0) ((Ae x0 x5).f1) ((Ae x0 x5).f2) ((Ae x0 x5).f3) ((Ae x0 x5).f4) x1).bind fun t102=>(if t102 < 0 then (some (-1)) else (Uc.l0 k x0 t102 (wrap64 (x5 + 1))))) else (none)) else (some x1)
def Uc.f (k:Nat) (l0:List (Lk)) (a1:Int):Option (Int):=if (wrap64 (a1 - (l0.length:Int))) < 0 then (some (-1)) else (Uc.l0 k l0 (wrap64 (a1 - (l0.length:Int))) 0)
theorem Uc.Sd:∀ k,(∀ y0 y1 y2,Lb (Uc.l0 k y0 y1 y2) (Uc.l0 (k + 1) y0 y1 y2))
 | 0=>fun _ _ _ r h=>by simp [Uc.l0] at h
 | k + 1=>by
  have Ff:=Uc.Sd k
  ·intro y0 y1 y2
   unfold Uc.l0
   repeat' first
   | (with_reducible exact Ff _ _ _)
   | (with_reducible exact Mf.mono _ _ _ _ _ _ _)
   | (with_reducible exact Lb.refl _)
   | (with_reducible exact Lb.none _)
   | (with_reducible refine Lb.ite ?_ ?_)
   | (with_reducible refine Lb.bind ?_ (fun _=>?_))
   | exact Ff _ _ _
   | exact Mf.mono _ _ _ _ _ _ _
   | exact Lb.none _
   | refine Lb.ite ?_ ?_
   | refine Lb.bind ?_ (fun _=>?_)
theorem Uc.mono:∀ a0 a1 k,Lb (Uc.f k a0 a1) (Uc.f (k + 1) a0 a1):=by
 intro a0 a1 k
 have Ff:=Uc.Sd k
 unfold Uc.f
 repeat' first
   | (with_reducible exact Ff _ _ _)
   | (with_reducible exact Mf.mono _ _ _ _ _ _ _)
   | (with_reducible exact Lb.refl _)
   | (with_reducible exact Lb.none _)
   | (with_reducible refine Lb.ite ?_ ?_)
   | (with_reducible refine Lb.bind ?_ (fun _=>?_))
   | exact Ff _ _ _
   | exact Mf.mono _ _ _ _ _ _ _
   | exact Lb.none _
   | refine Lb.ite ?_ ?_
   | refine Lb.bind ?_ (fun _=>?_)
set_option maxHeartbeats 8000000 in
set_option maxRecDepth 100000 in
theorem Uc.calls (k:Nat) (A0:Option Addr) (c0:Nat) (l0:List (Lk)) (a1:Int) (r:Int) (w:World) (hr0:Kd.C cy w A0 l0.length l0) (hc0:l0.length ≤ c0) (h:Uc.f k l0 a1=some r) :
  Calls Try.prog 52 #[.slice A0 l0.length c0,.int .i64 a1] w fun e w'=>e = .returned (.int .i64 r)∧Below w.heap.size w w':=by
 have QJ:=Try.underlying118
 have Gh:=ja.mk hr0
 have dw:=ja.mk hc0
 clear hr0 hc0
 have HB:=ja.mk (Below.refl w.heap.size w)
 have H:(if (wrap64 (a1 - (l0.length:Int))) < 0 then (some (-1)) else (Uc.l0 k l0 (wrap64 (a1 - (l0.length:Int))) 0))=some r:=h
 clear h
 by_cases c3:(wrap64 (a1 - (l0.length:Int))) < 0
 ·rw [if_pos c3] at H
  have Zh:decide ((wrap64 (a1 - (l0.length:Int))) < 0)=true:=decide_eq_true c3
  clear c3
  obtain rfl:=Option.some.inj H
  go_enter Try.func52,Try.ntmps52
  go_wp2
  go_ret
  exact ⟨by first|rfl|(simp [La,Ka] <;> rfl)|(simp [*,La,Ka] <;> rfl),by repeat (first|(with_reducible first|exact HB.out|apply qa|apply ia|apply ua)|exact HB.out)⟩
 ·rw [if_neg c3] at H
  have Zh:decide ((wrap64 (a1 - (l0.length:Int))) < 0)=false:=decide_eq_false c3
  clear c3
  have H':=ja.mk H
  clear H
  go_enter Try.func52,Try.ntmps52
  go_wp2
  go_loopg [1,5] k (fun kq v1 v5 w'=>∃ (Md:Int) (Ia:Int),v1 = .int .i64 Md∧v5 = .int .i64 Ia∧ja (Uc.l0 kq l0 Md Ia=some r)∧ja (kq ≤ k)∧ja (Below w.heap.size w w'))
  case atStart=>exact ⟨(wrap64 (a1 - (l0.length:Int))),(0),(by first|rfl|(simp;done)|(simp [*];done)),(by first|rfl|(simp;done)|(simp [*];done)),H',⟨Nat.le_refl _⟩,⟨by repeat (first|(with_reducible first|exact HB.out|apply qa|apply ia|apply ua)|exact HB.out)⟩⟩
  case round =>
   clear H'
   try clear p2
   try clear c3
   try clear Zh
   (try clear HA)
   (try clear Yg)
   (try clear HB)
   obtain ⟨Md,Ia,rfl,rfl,HA,Yg,HB⟩:=hrel
   cases gk with
   | zero=>exact absurd HA.out (by simp [Uc.l0])
   | succ k1 =>
    have H:=HA.out
    clear HA
    simp only [Uc.l0] at H
    by_cases c4:Ia < (l0.length:Int)
    ·rw [if_pos c4] at H
     have Gi:decide (Ia < (l0.length:Int))=true:=decide_eq_true c4
     clear c4
     by_cases c5:0 ≤ Ia
     ·rw [if_pos c5] at H
      have Il:decide (0 ≤ Ia)=true:=decide_eq_true c5
      clear c5
      replace H:=Option.bind_eq_some_iff.mp H
      obtain ⟨t102,wS,H⟩:=H
      replace H:(if t102 < 0 then (some (-1)) else (Uc.l0 k1 l0 t102 (wrap64 (Ia + 1))))=some r:=H
      have A6:=ja.mk wS
      clear wS
      by_cases c7:t102 < 0
      ·rw [if_pos c7] at H
       have bp:decide (t102 < 0)=true:=decide_eq_true c7
       clear c7
       obtain rfl:=Option.some.inj H
       have Je:0 ≤ (Ia:Int):=of_decide_eq_true (by first|(with_reducible assumption)|assumption)
       have Ie:Ia < (l0.length:Int):=of_decide_eq_true (by first|(with_reducible assumption)|assumption)
       obtain ⟨Gc,Ci,Bi,Tg,Ub,ic,fc,dc,Zb,Zf,ag⟩:=sB Gh.out Ia Je Ie
       cases Tg
       replace Ub:=(HB.out.cell (World.block_lt_of_cell? w _ Ub)).trans Ub
       replace ic:=(HB.out.cell (World.block_lt_of_cell? w _ ic)).trans ic
       replace fc:=(HB.out.cell (World.block_lt_of_cell? w _ fc)).trans fc
       replace dc:=(HB.out.cell (World.block_lt_of_cell? w _ dc)).trans dc
       replace Zb:=(HB.out.cell (World.block_lt_of_cell? w _ Zb)).trans Zb
       have mh:=ja.mk ag
       have Sh:=ja.mk Zf
       clear ag Zf
       replace Je:=eq_true Je
       replace Ie:=eq_true Ie
       go_wp2_with (first|((with_reducible refine mb (f:=86) rfl ?_);refine yd (some 23) rfl rfl Try.func86 (by kernel_rfl) rfl #[.agg #[.slice Ci ((Ae l0 Ia).f0).length Bi,.int .i64 ((Ae l0 Ia).f1),.int .i64 ((Ae l0 Ia).f2),.int .i64 ((Ae l0 Ia).f3),.int .i64 ((Ae l0 Ia).f4)],.int .i64 Md] rfl (by (try simp only [List.map_toArray,List.map_cons,List.map_nil]);first|done|rfl|(simp only [List.length_drop,List.length_take];rfl)) ?_;(with_reducible refine (Mf.calls k1 _ _ ((Ae l0 Ia).f0) ((Ae l0 Ia).f1) ((Ae l0 Ia).f2) ((Ae l0 Ia).f3) ((Ae l0 Ia).f4) Md t102 _ ?side1 ?side2 A6.out).mono ?_);(case side1=>repeat (first|exact (Kd.Mb mh.out HB.out)|(with_reducible refine Kd.Sc ?_ _)|(with_reducible refine Kd.Rc ?_ _)|(with_reducible refine Kd.Qd ?_)));(case side2=>exact Sh.out);rintro e w8 ⟨rfl,hb⟩;refine ⟨_,rfl,?_⟩;have Gb:=ja.mk (Qa (by repeat (first|(with_reducible first|exact HB.out|apply qa|apply ia|apply ua)|exact HB.out)) hb);clear HB;have HB:=Gb;clear Gb;(try clear hb);(try clear hb2);(try clear hk);(try clear hi)))
       go_ret
       exact ⟨by first|rfl|(simp [La,Ka] <;> rfl)|(simp [*,La,Ka] <;> rfl),by repeat (first|(with_reducible first|exact HB.out|apply qa|apply ia|apply ua)|exact HB.out)⟩
      ·rw [if_neg c7] at H
       have bp:decide (t102 < 0)=false:=decide_eq_false c7
       clear c7
       have H':=ja.mk H
       clear H
       have Je:0 ≤ (Ia:Int):=of_decide_eq_true (by first|(with_reducible assumption)|assumption)
       have Ie:Ia < (l0.length:Int):=of_decide_eq_true (by first|(with_reducible assumption)|assumption)
       obtain ⟨Gc,Ci,Bi,Tg,Ub,ic,fc,dc,Zb,Zf,ag⟩:=sB Gh.out Ia Je Ie
       cases Tg
       replace Ub:=(HB.out.cell (World.block_lt_of_cell? w _ Ub)).trans Ub
       replace ic:=(HB.out.cell (World.block_lt_of_cell? w _ ic)).trans ic
       replace fc:=(HB.out.cell (World.block_lt_of_cell? w _ fc)).trans fc
       replace dc:=(HB.out.cell (World.block_lt_of_cell? w _ dc)).trans dc
       replace Zb:=(HB.out.cell (World.block_lt_of_cell? w _ Zb)).trans Zb
       have mh:=ja.mk ag
       have Sh:=ja.mk Zf
       clear ag Zf
       replace Je:=eq_true Je
       replace Ie:=eq_true Ie
       go_wp2_with (first|((with_reducible refine mb (f:=86) rfl ?_);refine yd (some 23) rfl rfl Try.func86 (by kernel_rfl) rfl #[.agg #[.slice Ci ((Ae l0 Ia).f0).length Bi,.int .i64 ((Ae l0 Ia).f1),.int .i64 ((Ae l0 Ia).f2),.int .i64 ((Ae l0 Ia).f3),.int .i64 ((Ae l0 Ia).f4)],.int .i64 Md] rfl (by (try simp only [List.map_toArray,List.map_cons,List.map_nil]);first|done|rfl|(simp only [List.length_drop,List.length_take];rfl)) ?_;(with_reducible refine (Mf.calls k1 _ _ ((Ae l0 Ia).f0) ((Ae l0 Ia).f1) ((Ae l0 Ia).f2) ((Ae l0 Ia).f3) ((Ae l0 Ia).f4) Md t102 _ ?side1 ?side2 A6.out).mono ?_);(case side1=>repeat (first|exact (Kd.Mb mh.out HB.out)|(with_reducible refine Kd.Sc ?_ _)|(with_reducible refine Kd.Rc ?_ _)|(with_reducible refine Kd.Qd ?_)));(case side2=>exact Sh.out);rintro e w9 ⟨rfl,hb⟩;refine ⟨_,rfl,?_⟩;have Gb:=ja.mk (Qa (by repeat (first|(with_reducible first|exact HB.out|apply qa|apply ia|apply ua)|exact HB.out)) hb);clear HB;have HB:=Gb;clear Gb;(try clear hb);(try clear hb2);(try clear hk);(try clear hi)))
       go_roundg k1
       case measure=>have:=Yg.out;omega
       case rel=>exact ⟨(t102),(wrap64 (Ia + 1)),(by first|rfl|(simp;done)|(simp [*];done)),(by first|rfl|(simp;done)|(simp [*];done)),H',⟨by have:=Yg.out;omega⟩,⟨by repeat (first|(with_reducible first|exact HB.out|apply qa|apply ia|apply ua)|exact HB.out)⟩⟩
     ·rw [if_neg c5] at H
      exact absurd H (by simp)
    ·rw [if_neg c4] at H
     have Gi:decide (Ia < (l0.length:Int))=false:=decide_eq_false c4
     clear c4
     obtain rfl:=Option.some.inj H
     go_wp2
     go_ret
     exact ⟨by first|rfl|(simp [La,Ka] <;> rfl)|(simp [*,La,Ka] <;> rfl),by repeat (first|(with_reducible first|exact HB.out|apply qa|apply ia|apply ua)|exact HB.out)⟩
def zg.f (k:Nat) (Ta:List Int) (Ma:Int) (Oa:Int) (Pa:Int) (Sa:List (Lk)) (a1:Int):Option (Int):=(ni.f Ta a1).bind fun t102=>(if t102 < 0 then (some (-1)) else ((Uc.f k Sa t102).bind fun t103=>(if t103 < 0 then (some (-1)) else (some t103))))
theorem zg.mono:∀ a0 a1 a2 a3 a4 a5 k,Lb (zg.f k a0 a1 a2 a3 a4 a5) (zg.f (k + 1) a0 a1 a2 a3 a4 a5):=by
 intro a0 a1 a2 a3 a4 a5 k
 unfold zg.f
 repeat' first
   | (with_reducible exact Uc.mono _ _ _)
   | (with_reducible exact Lb.refl _)
   | (with_reducible exact Lb.none _)
   | (with_reducible refine Lb.ite ?_ ?_)
   | (with_reducible refine Lb.bind ?_ (fun _=>?_))
   | exact Uc.mono _ _ _
   | exact Lb.none _
   | refine Lb.ite ?_ ?_
   | refine Lb.bind ?_ (fun _=>?_)
set_option maxHeartbeats 8000000 in
set_option maxRecDepth 100000 in
theorem zg.calls (k:Nat) (Cb:Option Addr) (Bb:Nat) (Ta:List Int) (Ma:Int) (Oa:Int) (Pa:Int) (yc:Option Addr) (Xb:Nat) (Sa:List (Lk)) (a1:Int) (r:Int) (w:World) (Rf:Kd.C (Kd.int .i64) w Cb Ta.length Ta) (Pf:Ta.length ≤ Bb) (Bg:Kd.C cy w yc Sa.length Sa) (Eg:Sa.length ≤ Xb) (h:zg.f k Ta Ma Oa Pa Sa a1=some r) :
  Calls Try.prog 13 #[.agg #[.slice Cb Ta.length Bb,.int .i64 Ma,.int .i64 Oa,.int .i64 Pa,.slice yc Sa.length Xb],.int .i64 a1] w fun e w'=>e = .returned (.int .i64 r)∧Below w.heap.size w w':=by
 have Mae:=Try.underlying25
 have ig:=ja.mk Rf
 have mg:=ja.mk Pf
 clear Rf Pf
 have oh:=ja.mk Bg
 have qj:=ja.mk Eg
 clear Bg Eg
 have HB:=ja.mk (Below.refl w.heap.size w)
 have H:((ni.f Ta a1).bind fun t102=>(if t102 < 0 then (some (-1)) else ((Uc.f k Sa t102).bind fun t103=>(if t103 < 0 then (some (-1)) else (some t103)))))=some r:=h
 clear h
 replace H:=Option.bind_eq_some_iff.mp H
 obtain ⟨t102,Pv,H⟩:=H
 replace H:(if t102 < 0 then (some (-1)) else ((Uc.f k Sa t102).bind fun t103=>(if t103 < 0 then (some (-1)) else (some t103))))=some r:=H
 have A3:=ja.mk Pv
 clear Pv
 by_cases c4:t102 < 0
 ·rw [if_pos c4] at H
  have Gi:decide (t102 < 0)=true:=decide_eq_true c4
  clear c4
  obtain rfl:=Option.some.inj H
  go_enter Try.func13,Try.ntmps13
  go_wp2_with (first|((with_reducible refine Kb (N:=2) rfl ?_);refine Eb ?hg (N:=2) ?hd (cs:=#[.slice Cb Ta.length Bb,.int .i64 Ma,.int .i64 Oa,.int .i64 Pa,.slice yc Sa.length Xb]) (t:=25) ?hr ?_;(case hd=>rfl);(case hg=>rfl);(case hr=>first|(go_simp;done)|(go_simp;rfl));intro Ea hg w5 Tb hb;have Gb:=ja.mk (Qa (by repeat (first|(with_reducible first|exact HB.out|apply qa|apply ia|apply ua)|exact HB.out)) hb);have Vb:=ja.mk (Tb);have Ac:=ja.mk ((by rw [hg];exact (Ra (by repeat (first|(with_reducible first|exact HB.out|apply qa|apply ia|apply ua)|exact HB.out))):w.heap.size ≤ Ea));have ud:=ja.mk ((by rw [hg];exact (Ra (by repeat (first|(with_reducible first|exact HB.out|apply qa|apply ia|apply ua)|exact HB.out))):w.heap.size ≤ Ea));clear HB;have HB:=Gb;have za:=Vb;have Be:=Ac;have Wa:=ud;clear Gb Vb Ac ud;clear hb Tb hg;have IK:w5.cell? ⟨Ea,0,none⟩=some (.slice Cb Ta.length Bb):=(ga za.out 0).trans rfl;have GK:w5.cell? ⟨Ea,1,none⟩=some (.int .i64 Ma):=(ga za.out 1).trans rfl;have EK:w5.cell? ⟨Ea,2,none⟩=some (.int .i64 Oa):=(ga za.out 2).trans rfl;have DK:w5.cell? ⟨Ea,3,none⟩=some (.int .i64 Pa):=(ga za.out 3).trans rfl;have CK:w5.cell? ⟨Ea,4,none⟩=some (.slice yc Sa.length Xb):=(ga za.out 4).trans rfl;have jK:=aa za.out 0;have iK:=aa za.out 1;have gK:=aa za.out 2;have fK:=aa za.out 3;have eK:=aa za.out 4)|((with_reducible refine mb (f:=51) rfl ?_);refine yd (some 8) rfl rfl Try.func51 (by kernel_rfl) rfl #[.slice Cb Ta.length Bb,.int .i64 a1] rfl (by (try simp only [List.map_toArray,List.map_cons,List.map_nil]);first|done|rfl|(simp only [List.length_drop,List.length_take];rfl)) ?_;(with_reducible refine (ni.calls _ _ Ta a1 t102 _ ?side1 ?side2 A3.out).mono ?_);(case side1=>repeat (first|exact (Kd.Mb ig.out HB.out)|(with_reducible refine Kd.Sc ?_ _)|(with_reducible refine Kd.Rc ?_ _)|(with_reducible refine Kd.Qd ?_)));(case side2=>exact mg.out);rintro e w' ⟨rfl,⟨nd,rfl⟩⟩;refine ⟨_,rfl,?_⟩))
  go_ret
  exact ⟨by first|rfl|(simp [La,Ka] <;> rfl)|(simp [*,La,Ka] <;> rfl),by repeat (first|(with_reducible first|exact HB.out|apply qa|apply ia|apply ua|refine Aa ?_ Wa.out)|exact HB.out)⟩
 ·rw [if_neg c4] at H
  have Gi:decide (t102 < 0)=false:=decide_eq_false c4
  clear c4
  replace H:=Option.bind_eq_some_iff.mp H
  obtain ⟨t103,AB,H⟩:=H
  replace H:(if t103 < 0 then (some (-1)) else (some t103))=some r:=H
  have A7:=ja.mk AB
  clear AB
  by_cases c8:t103 < 0
  ·rw [if_pos c8] at H
   have Ll:decide (t103 < 0)=true:=decide_eq_true c8
   clear c8
   obtain rfl:=Option.some.inj H
   go_enter Try.func13,Try.ntmps13
   go_wp2_with (first|((with_reducible refine Kb (N:=2) rfl ?_);refine Eb ?hg (N:=2) ?hd (cs:=#[.slice Cb Ta.length Bb,.int .i64 Ma,.int .i64 Oa,.int .i64 Pa,.slice yc Sa.length Xb]) (t:=25) ?hr ?_;(case hd=>rfl);(case hg=>rfl);(case hr=>first|(go_simp;done)|(go_simp;rfl));intro Ea hg w9 Tb hb;have Gb:=ja.mk (Qa (by repeat (first|(with_reducible first|exact HB.out|apply qa|apply ia|apply ua)|exact HB.out)) hb);have Vb:=ja.mk (Tb);have Ac:=ja.mk ((by rw [hg];exact (Ra (by repeat (first|(with_reducible first|exact HB.out|apply qa|apply ia|apply ua)|exact HB.out))):w.heap.size ≤ Ea));have ud:=ja.mk ((by rw [hg];exact (Ra (by repeat (first|(with_reducible first|exact HB.out|apply qa|apply ia|apply ua)|exact HB.out))):w.heap.size ≤ Ea));clear HB;have HB:=Gb;have za:=Vb;have Be:=Ac;have Wa:=ud;clear Gb Vb Ac ud;clear hb Tb hg;have Fk:w9.cell? ⟨Ea,0,none⟩=some (.slice Cb Ta.length Bb):=(ga za.out 0).trans rfl;have Ek:w9.cell? ⟨Ea,1,none⟩=some (.int .i64 Ma):=(ga za.out 1).trans rfl;have Dk:w9.cell? ⟨Ea,2,none⟩=some (.int .i64 Oa):=(ga za.out 2).trans rfl;have Ck:w9.cell? ⟨Ea,3,none⟩=some (.int .i64 Pa):=(ga za.out 3).trans rfl;have Bk:w9.cell? ⟨Ea,4,none⟩=some (.slice yc Sa.length Xb):=(ga za.out 4).trans rfl;have xk:=aa za.out 0;have wk:=aa za.out 1;have vk:=aa za.out 2;have uk:=aa za.out 3;have qk:=aa za.out 4)|((with_reducible refine mb (f:=51) rfl ?_);refine yd (some 8) rfl rfl Try.func51 (by kernel_rfl) rfl #[.slice Cb Ta.length Bb,.int .i64 a1] rfl (by (try simp only [List.map_toArray,List.map_cons,List.map_nil]);first|done|rfl|(simp only [List.length_drop,List.length_take];rfl)) ?_;(with_reducible refine (ni.calls _ _ Ta a1 t102 _ ?side1 ?side2 A3.out).mono ?_);(case side1=>repeat (first|exact (Kd.Mb ig.out HB.out)|(with_reducible refine Kd.Sc ?_ _)|(with_reducible refine Kd.Rc ?_ _)|(with_reducible refine Kd.Qd ?_)));(case side2=>exact mg.out);rintro e w' ⟨rfl,⟨nd,rfl⟩⟩;refine ⟨_,rfl,?_⟩)|((with_reducible refine mb (f:=52) rfl ?_);refine yd (some 14) rfl rfl Try.func52 (by kernel_rfl) rfl #[.slice yc Sa.length Xb,.int .i64 t102] rfl (by (try simp only [List.map_toArray,List.map_cons,List.map_nil]);first|done|rfl|(simp only [List.length_drop,List.length_take];rfl)) ?_;(with_reducible refine (Uc.calls k _ _ Sa t102 t103 _ ?side1 ?side2 A7.out).mono ?_);(case side1=>repeat (first|exact (Kd.Mb oh.out (by repeat (first|(with_reducible first|exact HB.out|apply qa|apply ia|apply ua|refine Aa ?_ Wa.out)|exact HB.out)))|(with_reducible refine Kd.Sc ?_ _)|(with_reducible refine Kd.Rc ?_ _)|(with_reducible refine Kd.Qd ?_)));(case side2=>exact qj.out);rintro e sj ⟨rfl,hb⟩;refine ⟨_,rfl,?_⟩;have Gb:=ja.mk (gb (g:=Ea) (o:=.cells #[.slice Cb Ta.length Bb,.int .i64 Ma,.int .i64 Oa,.int .i64 Pa,.slice yc Sa.length Xb] 25 (0,0)) (by (with_reducible repeat (first|refine Da ?_ _|refine Ga ?_|refine Ca ?_ _));exact za.out) hb);have Vb:=ja.mk (Qa (by repeat (first|(with_reducible first|exact HB.out|apply qa|apply ia|apply ua|refine Aa ?_ Wa.out)|exact HB.out)) hb);clear za;clear HB;have za:=Gb;have HB:=Vb;clear Gb Vb;(try clear hb);(try clear hb2);(try clear hk);(try clear hi)))
   go_ret
   exact ⟨by first|rfl|(simp [La,Ka] <;> rfl)|(simp [*,La,Ka] <;> rfl),by repeat (first|(with_reducible first|exact HB.out|apply qa|apply ia|apply ua|refine Aa ?_ Wa.out)|exact HB.out)⟩
  ·rw [if_neg c8] at H
   have Ll:decide (t103 < 0)=false:=decide_eq_false c8
   clear c8
   obtain rfl:=Option.some.inj H
   go_enter Try.func13,Try.ntmps13
   go_wp2_with (first|((with_reducible refine Kb (N:=2) rfl ?_);refine Eb ?hg (N:=2) ?hd (cs:=#[.slice Cb Ta.length Bb,.int .i64 Ma,.int .i64 Oa,.int .i64 Pa,.slice yc Sa.length Xb]) (t:=25) ?hr ?_;(case hd=>rfl);(case hg=>rfl);(case hr=>first|(go_simp;done)|(go_simp;rfl));intro Ea hg Nr Tb hb;have Gb:=ja.mk (Qa (by repeat (first|(with_reducible first|exact HB.out|apply qa|apply ia|apply ua)|exact HB.out)) hb);have Vb:=ja.mk (Tb);have Ac:=ja.mk ((by rw [hg];exact (Ra (by repeat (first|(with_reducible first|exact HB.out|apply qa|apply ia|apply ua)|exact HB.out))):w.heap.size ≤ Ea));have ud:=ja.mk ((by rw [hg];exact (Ra (by repeat (first|(with_reducible first|exact HB.out|apply qa|apply ia|apply ua)|exact HB.out))):w.heap.size ≤ Ea));clear HB;have HB:=Gb;have za:=Vb;have Be:=Ac;have Wa:=ud;clear Gb Vb Ac ud;clear hb Tb hg;have aj:Nr.cell? ⟨Ea,0,none⟩=some (.slice Cb Ta.length Bb):=(ga za.out 0).trans rfl;have Zi:Nr.cell? ⟨Ea,1,none⟩=some (.int .i64 Ma):=(ga za.out 1).trans rfl;have Vl:Nr.cell? ⟨Ea,2,none⟩=some (.int .i64 Oa):=(ga za.out 2).trans rfl;have Ul:Nr.cell? ⟨Ea,3,none⟩=some (.int .i64 Pa):=(ga za.out 3).trans rfl;have Tl:Nr.cell? ⟨Ea,4,none⟩=some (.slice yc Sa.length Xb):=(ga za.out 4).trans rfl;have Yi:=aa za.out 0;have Xi:=aa za.out 1;have Sl:=aa za.out 2;have Rl:=aa za.out 3;have Ql:=aa za.out 4)|((with_reducible refine mb (f:=51) rfl ?_);refine yd (some 8) rfl rfl Try.func51 (by kernel_rfl) rfl #[.slice Cb Ta.length Bb,.int .i64 a1] rfl (by (try simp only [List.map_toArray,List.map_cons,List.map_nil]);first|done|rfl|(simp only [List.length_drop,List.length_take];rfl)) ?_;(with_reducible refine (ni.calls _ _ Ta a1 t102 _ ?side1 ?side2 A3.out).mono ?_);(case side1=>repeat (first|exact (Kd.Mb ig.out HB.out)|(with_reducible refine Kd.Sc ?_ _)|(with_reducible refine Kd.Rc ?_ _)|(with_reducible refine Kd.Qd ?_)));(case side2=>exact mg.out);rintro e w' ⟨rfl,⟨nd,rfl⟩⟩;refine ⟨_,rfl,?_⟩)|((with_reducible refine mb (f:=52) rfl ?_);refine yd (some 14) rfl rfl Try.func52 (by kernel_rfl) rfl #[.slice yc Sa.length Xb,.int .i64 t102] rfl (by (try simp only [List.map_toArray,List.map_cons,List.map_nil]);first|done|rfl|(simp only [List.length_drop,List.length_take];rfl)) ?_;(with_reducible refine (Uc.calls k _ _ Sa t102 t103 _ ?side1 ?side2 A7.out).mono ?_);(case side1=>repeat (first|exact (Kd.Mb oh.out (by repeat (first|(with_reducible first|exact HB.out|apply qa|apply ia|apply ua|refine Aa ?_ Wa.out)|exact HB.out)))|(with_reducible refine Kd.Sc ?_ _)|(with_reducible refine Kd.Rc ?_ _)|(with_reducible refine Kd.Qd ?_)));(case side2=>exact qj.out);rintro e pz ⟨rfl,hb⟩;refine ⟨_,rfl,?_⟩;have Gb:=ja.mk (gb (g:=Ea) (o:=.cells #[.slice Cb Ta.length Bb,.int .i64 Ma,.int .i64 Oa,.int .i64 Pa,.slice yc Sa.length Xb] 25 (0,0)) (by (with_reducible repeat (first|refine Da ?_ _|refine Ga ?_|refine Ca ?_ _));exact za.out) hb);have Vb:=ja.mk (Qa (by repeat (first|(with_reducible first|exact HB.out|apply qa|apply ia|apply ua|refine Aa ?_ Wa.out)|exact HB.out)) hb);clear za;clear HB;have za:=Gb;have HB:=Vb;clear Gb Vb;(try clear hb);(try clear hb2);(try clear hk);(try clear hi)))
   go_ret
   exact ⟨by first|rfl|(simp [La,Ka] <;> rfl)|(simp [*,La,Ka] <;> rfl),by repeat (first|(with_reducible first|exact HB.out|apply qa|apply ia|apply ua|refine Aa ?_ Wa.out)|exact HB.out)⟩
def Rd.l0:Nat→List Int→List Int→Int→Option (List Int)
 | 0,_,_,_=>none
 | k + 1,x0,x3,x4=>if x4 < (x0.length:Int) then (if 0 ≤ x4 then (if x4 < (x3.length:Int) then (Rd.l0 k x0 (x3.set (x4:Int).toNat (rd x0 x4)) (wrap64 (x4 + 1))) else (none)) else (none)) else (some x3)
def Rd.f (k:Nat) (l0:List Int):Option (List Int):=if 0 ≤ (l0.length:Int) then (if ((l0.length:Int):Int).toNat ≤ 35184372088832 then (Rd.l0 k l0 (List.replicate ((l0.length:Int):Int).toNat 0) 0) else (none)) else (none)
theorem Rd.Sd:∀ k,(∀ y0 y1 y2,Lb (Rd.l0 k y0 y1 y2) (Rd.l0 (k + 1) y0 y1 y2))
 | 0=>fun _ _ _ r h=>by simp [Rd.l0] at h
 | k + 1=>by
  have Ff:=Rd.Sd k
  ·intro y0 y1 y2
   unfold Rd.l0
   repeat' first
   | (with_reducible exact Ff _ _ _)
   | (with_reducible exact Lb.refl _)
   | (with_reducible exact Lb.none _)
   | (with_reducible refine Lb.ite ?_ ?_)
   | (with_reducible refine Lb.bind ?_ (fun _=>?_))
   | exact Ff _ _ _
   | exact Lb.none _
   | refine Lb.ite ?_ ?_
   | refine Lb.bind ?_ (fun _=>?_)
theorem Rd.mono:∀ a0 k,Lb (Rd.f k a0) (Rd.f (k + 1) a0):=by
 intro a0 k
 have Ff:=Rd.Sd k
 unfold Rd.f
 repeat' first
   | (with_reducible exact Ff _ _ _)
   | (with_reducible exact Lb.refl _)
   | (with_reducible exact Lb.none _)
   | (with_reducible refine Lb.ite ?_ ?_)
   | (with_reducible refine Lb.bind ?_ (fun _=>?_))
   | exact Ff _ _ _
   | exact Lb.none _
   | refine Lb.ite ?_ ?_
   | refine Lb.bind ?_ (fun _=>?_)
set_option maxHeartbeats 8000000 in
set_option maxRecDepth 100000 in
theorem Rd.calls (k:Nat) (A0:Option Addr) (c0:Nat) (l0:List Int) (r:List Int) (w:World) (hr0:Kd.C (Kd.int .i64) w A0 l0.length l0) (hc0:l0.length ≤ c0) (h:Rd.f k l0=some r) :
  Calls Try.prog 25 #[.slice A0 l0.length c0] w fun e w'=>∃ v0_:Value,e = .returned (v0_)∧Kd.R (Kd.int .i64) 3 w' w.heap.size (fun _=>True) v0_ r∧Below w.heap.size w w':=by
 have Gh:=ja.mk hr0
 have dw:=ja.mk hc0
 clear hr0 hc0
 have HB:=ja.mk (Below.refl w.heap.size w)
 have H:(if 0 ≤ (l0.length:Int) then (if ((l0.length:Int):Int).toNat ≤ 35184372088832 then (Rd.l0 k l0 (List.replicate ((l0.length:Int):Int).toNat 0) 0) else (none)) else (none))=some r:=h
 clear h
 by_cases c2:0 ≤ (l0.length:Int)
 ·rw [if_pos c2] at H
  have mz:=eq_true c2
  have iE:decide (0 ≤ (l0.length:Int))=true:=decide_eq_true c2
  clear c2
  by_cases c3:((l0.length:Int):Int).toNat ≤ 35184372088832
  ·rw [if_pos c3] at H
   have Zh:=eq_true c3
   have Sr:decide (((l0.length:Int):Int).toNat ≤ 35184372088832)=true:=decide_eq_true c3
   clear c3
   obtain ⟨bg,hy101⟩:∃ y_:List Int,y_=(List.replicate ((l0.length:Int):Int).toNat 0):=⟨_,rfl⟩
   replace H:(Rd.l0 k l0 bg 0)=some r:=by first|(rw [hy101];with_reducible exact H)|(have Eh:=(Option.bind_some _ _).symm.trans H;rw [hy101];with_reducible exact Eh)|(have Eh:=(Option.bind_some _ _).symm.trans H;with_reducible exact Eh)|with_reducible exact H|(rw [hy101];exact H)|exact H
   have ek:=ja.mk hy101
   clear hy101
   have H':=ja.mk H
   clear H
   go_enter Try.func25,Try.ntmps25
   go_wp2_with (first|((with_reducible refine Kb (N:=7) rfl ?_);refine Kd.rE (Kd.int .i64) _ 3 rfl (N:=7) rfl 22 _ _ rfl (l0.length:Int) rfl rfl Try.underlying22 (.int .i64 0) 8 info3 rfl (by decide) (by omega) 0 (ok:=fun _=>True) (vp:=fun _=>True) rfl (fun _ hk=>hk) trivial (of_decide_eq_true (by first|(with_reducible assumption)|assumption)) (Nat.le_trans (Nat.mul_le_mul_right _ (of_decide_eq_true (by first|(with_reducible assumption)|assumption):(l0.length:Int).toNat ≤ 35184372088832)) (by omega)) (Below.refl _ _) (Nat.le_refl _) ?_;intro IB w4 bC hb CD Jn;clear CD Jn;(first|rw [← ek.out] at bC|(simp only [Int.reduceToNat] at bC;rw [← ek.out] at bC));have Gb:=ja.mk (Kd.zi bC (Ra (by repeat (first|(with_reducible first|exact HB.out|apply qa|apply ia|apply ua)|exact HB.out))));have Vb:=ja.mk (Qa (by repeat (first|(with_reducible first|exact HB.out|apply qa|apply ia|apply ua)|exact HB.out)) hb);clear HB;have gp:=Gb;have HB:=Vb;clear Gb Vb;clear hb bC))
   go_loopg [4] k (fun kq v4 w'=>∃ (lf:List Int) (Jd:Int),v4 = .int .i64 Jd∧ja (Rd.l0 kq l0 lf Jd=some r)∧ja (kq ≤ k)∧ja (Kd.R (Kd.int .i64) 3 w' w.heap.size (fun _=>True) IB lf)∧ja (Below w.heap.size w w'))
   case atStart=>exact ⟨(bg),(0),(by first|rfl|(simp;done)|(simp [*];done)),H',⟨Nat.le_refl _⟩,⟨by (with_reducible repeat (first|apply Kd.Dc|apply Kd.Ic|apply Kd.Zc));exact gp.out⟩,⟨by repeat (first|(with_reducible first|exact HB.out|apply qa|apply ia|apply ua)|exact HB.out)⟩⟩
   case round =>
    clear H'
    try clear c2
    try clear mz
    try clear iE
    try clear p2
    try clear c3
    try clear Zh
    try clear Sr
    (try clear HA)
    (try clear Yg)
    (try clear di)
    (try clear HB)
    obtain ⟨lf,Jd,rfl,HA,Yg,di,HB⟩:=hrel
    cases gk with
    | zero=>exact absurd HA.out (by simp [Rd.l0])
    | succ k1 =>
     have H:=HA.out
     clear HA
     simp only [Rd.l0] at H
     by_cases c6:Jd < (l0.length:Int)
     ·rw [if_pos c6] at H
      have cm:decide (Jd < (l0.length:Int))=true:=decide_eq_true c6
      clear c6
      by_cases c7:0 ≤ Jd
      ·rw [if_pos c7] at H
       have bp:decide (0 ≤ Jd)=true:=decide_eq_true c7
       clear c7
       by_cases c8:Jd < (lf.length:Int)
       ·rw [if_pos c8] at H
        have Ll:decide (Jd < (lf.length:Int))=true:=decide_eq_true c8
        clear c8
        obtain ⟨Ef,hy105⟩:∃ y_:List Int,y_=(lf.set (Jd:Int).toNat (rd l0 Jd)):=⟨_,rfl⟩
        replace H:(Rd.l0 k1 l0 Ef (wrap64 (Jd + 1)))=some r:=by first|(rw [hy105];with_reducible exact H)|(have Eh:=(Option.bind_some _ _).symm.trans H;rw [hy105];with_reducible exact Eh)|(have Eh:=(Option.bind_some _ _).symm.trans H;with_reducible exact Eh)|with_reducible exact H|(rw [hy105];exact H)|exact H
        have OC:=ja.mk hy105
        clear hy105
        have H':=ja.mk H
        clear H
        have zh:0 ≤ (Jd:Int):=of_decide_eq_true (by first|(with_reducible assumption)|assumption)
        have xh:Jd < (l0.length:Int):=of_decide_eq_true (by first|(with_reducible assumption)|assumption)
        obtain ⟨Wj,um,Zd⟩:=Kd.Po Gh.out Jd zh xh
        cases um
        replace Zd:=(HB.out.cell (World.block_lt_of_cell? w _ Zd)).trans Zd
        replace zh:=eq_true zh
        replace xh:=eq_true xh
        have p9:0 ≤ (Jd:Int):=of_decide_eq_true (by first|(with_reducible assumption)|assumption)
        have q9:(Jd:Int) < ((lf.length:Int):Int):=of_decide_eq_true (by first|(with_reducible assumption)|assumption)
        obtain ⟨go9,co9,eo9,gb9,gl9,cl9,LV⟩:=Kd.Qo di.out (by omega)
        (first|cases eo9|(injection eo9 with Ei en_ ec_;(first|subst Ei|(injection Ei with Ei;subst Ei));subst ec_;clear en_))
        have GB9:=ja.mk gb9
        have GG9:=ja.mk LV
        clear gb9 gl9 LV
        obtain ⟨oW,SY⟩:=Kd.UH 0 di.out (Jd:Int) p9 q9
        replace p9:=eq_true p9
        replace q9:=eq_true q9
        have jV:=Kd.wL di.out (Jd:Int) (rd l0 Jd)
        go_wp2_with (first|((with_reducible refine qf (t:=3) (p:=20) rfl ?_);refine Xe (t:=3) (p:=20) (v:=?vo_w11) (w1:=(wr.setCell ⟨go9,(Jd:Int).toNat,none⟩ (.int .i64 (rd l0 Jd)))) ?hg ?ho ?hn ?hr ?_;(case ho=>rfl);(case hg=>rfl);(case hn=>rfl);(case hr=>first|(go_simp;done)|(go_simp;rfl));intro sj hw;have hg:wr.grownBy sj (some go9):=(by rw [hw];exact jV.2);have Gn:Kd.R (Kd.int .i64) 3 sj w.heap.size (fun _=>True) (.slice (some ⟨go9,0,none⟩) lf.length co9) Ef:=(by rw [hw,OC.out];exact jV.1);clear jV;have Gb:=ja.mk (Gn);have Vb:=ja.mk ((by rw [hw];exact Aa (HB.out) GB9.out:Below w.heap.size w sj));clear di;clear HB;have di:=Gb;have HB:=Vb;clear Gb Vb;clear hg hw Gn))
        go_roundg k1
        case measure=>have:=Yg.out;omega
        case rel=>exact ⟨(Ef),(wrap64 (Jd + 1)),(by first|rfl|(simp;done)|(simp [*];done)),H',⟨by have:=Yg.out;omega⟩,⟨by (with_reducible repeat (first|apply Kd.Dc|apply Kd.Ic|apply Kd.Zc));exact di.out⟩,⟨by repeat (first|(with_reducible first|exact HB.out|apply qa|apply ia|apply ua)|exact HB.out)⟩⟩
       ·rw [if_neg c8] at H
        exact absurd H (by simp)
      ·rw [if_neg c7] at H
       exact absurd H (by simp)
     ·rw [if_neg c6] at H
      have cm:decide (Jd < (l0.length:Int))=false:=decide_eq_false c6
      clear c6
      obtain rfl:=Option.some.inj H
      go_wp2
      go_ret
      exact ⟨_,by first|rfl|(simp [La,Ka] <;> rfl)|(simp [*,La,Ka] <;> rfl),by (with_reducible repeat (first|apply Kd.Dc|apply Kd.Ic|apply Kd.Zc));exact di.out,by repeat (first|(with_reducible first|exact HB.out|apply qa|apply ia|apply ua)|exact HB.out)⟩
  ·rw [if_neg c3] at H
   exact absurd H (by simp)
 ·rw [if_neg c2] at H
  exact absurd H (by simp)
def Sk.f (Pc:Int) (Ma:Int) (Oa:Int) (Pa:Int) (nc:Int) (Od:Int) (Nd:ByteArray):Option (Int × Int × Int × Int × Int × Int × ByteArray):=some (Pc,Ma,Oa,Pa,nc,Od,Nd)
set_option maxHeartbeats 8000000 in
set_option maxRecDepth 100000 in
theorem Sk.calls (Pc:Int) (Ma:Int) (Oa:Int) (Pa:Int) (nc:Int) (Od:Int) (Nd:ByteArray) (r1:Int) (r2:Int) (r3:Int) (r4:Int) (r5:Int) (r6:Int) (r7:ByteArray) (w:World) (h:Sk.f Pc Ma Oa Pa nc Od Nd=some (r1,r2,r3,r4,r5,r6,r7)) :
  Calls Try.prog 129 #[.agg #[.int .i64 Pc,.int .i64 Ma,.int .i64 Oa,.int .i64 Pa,.int .i64 nc,.int .i64 Od,.string Nd]] w fun e w'=>e = .returned (.agg #[.int .i64 r1,.int .i64 r2,.int .i64 r3,.int .i64 r4,.int .i64 r5,.int .i64 r6,.string r7])∧Below w.heap.size w w':=by
 have PJ:=Try.underlying161
 have YB:=Try.underlying70
 have HB:=ja.mk (Below.refl w.heap.size w)
 have H:(some (Pc,Ma,Oa,Pa,nc,Od,Nd))=some (r1,r2,r3,r4,r5,r6,r7):=h
 clear h
 simp only [Option.some.injEq,Prod.mk.injEq] at H
 obtain ⟨rfl,rfl,rfl,rfl,rfl,rfl,rfl⟩:=H
 go_enter Try.func129,Try.ntmps129
 go_wp2_with (first|((with_reducible refine Kb (N:=1) rfl ?_);refine Eb ?hg (N:=1) ?hd (cs:=#[.int .i64 Pc,.int .i64 Ma,.int .i64 Oa,.int .i64 Pa,.int .i64 nc,.int .i64 Od,.string Nd]) (t:=161) ?hr ?_;(case hd=>rfl);(case hg=>rfl);(case hr=>first|(go_simp;done)|(go_simp;rfl));intro Ea hg w2 Tb hb;have Gb:=ja.mk (Qa (by repeat (first|(with_reducible first|exact HB.out|apply qa|apply ia|apply ua)|exact HB.out)) hb);have Vb:=ja.mk (Tb);have Ac:=ja.mk ((by rw [hg];exact (Ra (by repeat (first|(with_reducible first|exact HB.out|apply qa|apply ia|apply ua)|exact HB.out))):w.heap.size ≤ Ea));have ud:=ja.mk ((by rw [hg];exact (Ra (by repeat (first|(with_reducible first|exact HB.out|apply qa|apply ia|apply ua)|exact HB.out))):w.heap.size ≤ Ea));clear HB;have HB:=Gb;have za:=Vb;have Be:=Ac;have Wa:=ud;clear Gb Vb Ac ud;clear hb Tb hg)|((with_reducible refine Kb (N:=2) rfl ?_);refine Eb ?hg (N:=2) ?hd (cs:=#[.int .i64 0,.int .i64 0,.int .i64 0,.int .i64 0,.int .i64 0,.int .i64 0,.string (⟨#[]⟩:ByteArray)]) (t:=70) ?hr ?_;(case hd=>rfl);(case hg=>rfl);(case hr=>first|(go_simp;done)|(go_simp;rfl));intro Fa hg w3 Tb hb;have Gb:=ja.mk (gb (g:=Ea) (o:=.cells #[.int .i64 Pc,.int .i64 Ma,.int .i64 Oa,.int .i64 Pa,.int .i64 nc,.int .i64 Od,.string Nd] 161 (0,0)) (by (with_reducible repeat (first|refine Da ?_ _|refine Ga ?_|refine Ca ?_ _));exact za.out) hb);have Vb:=ja.mk (Qa (by repeat (first|(with_reducible first|exact HB.out|apply qa|apply ia|apply ua|refine Aa ?_ Wa.out)|exact HB.out)) hb);have Ac:=ja.mk (Tb);have ud:=ja.mk ((by rw [hg];exact (Ra (by repeat (first|(with_reducible first|exact HB.out|apply qa|apply ia|apply ua|refine Aa ?_ Wa.out)|exact HB.out))):w.heap.size ≤ Fa));have ef:=ja.mk ((by rw [hg];exact (Ra (by repeat (first|(with_reducible first|exact HB.out|apply qa|apply ia|apply ua|refine Aa ?_ Wa.out)|exact HB.out))):w.heap.size ≤ Fa));have Ag:=ja.mk ((by rw [hg];exact Nat.ne_of_lt (Lc (g:=Ea) (o:=.cells #[.int .i64 Pc,.int .i64 Ma,.int .i64 Oa,.int .i64 Pa,.int .i64 nc,.int .i64 Od,.string Nd] 161 (0,0)) (by (with_reducible repeat (first|refine Da ?_ _|refine Ga ?_|refine Ca ?_ _));exact za.out)):Ea ≠ Fa));have dh:=ja.mk ((by rw [hg];exact Nat.ne_of_gt (Lc (g:=Ea) (o:=.cells #[.int .i64 Pc,.int .i64 Ma,.int .i64 Oa,.int .i64 Pa,.int .i64 nc,.int .i64 Od,.string Nd] 161 (0,0)) (by (with_reducible repeat (first|refine Da ?_ _|refine Ga ?_|refine Ca ?_ _));exact za.out)):Fa ≠ Ea));clear za;clear HB;have za:=Gb;have HB:=Vb;have Ba:=Ac;have Df:=ud;have Sb:=ef;have Ua:=Ag;have jb:=dh;clear Gb Vb Ac ud ef Ag dh;clear hb Tb hg)|((with_reducible refine Kb (N:=3) rfl ?_);refine Eb ?hg (N:=3) ?hd (cs:=#[.int .i64 0,.int .i64 0,.int .i64 0,.int .i64 0,.int .i64 0,.int .i64 0,.string (⟨#[]⟩:ByteArray)]) (t:=70) ?hr ?_;(case hd=>rfl);(case hg=>rfl);(case hr=>first|(go_simp;done)|(go_simp;rfl));intro fe hg w4 Tb hb;have Gb:=ja.mk (gb (g:=Ea) (o:=.cells #[.int .i64 Pc,.int .i64 Ma,.int .i64 Oa,.int .i64 Pa,.int .i64 nc,.int .i64 Od,.string Nd] 161 (0,0)) (by (with_reducible repeat (first|refine Da ?_ _|refine Ga ?_|refine Ca ?_ _));exact za.out) hb);have Vb:=ja.mk (gb (g:=Fa) (o:=.cells #[.int .i64 0,.int .i64 0,.int .i64 0,.int .i64 0,.int .i64 0,.int .i64 0,.string (⟨#[]⟩:ByteArray)] 70 (0,0)) (by (with_reducible repeat (first|refine Da ?_ _|refine Ga ?_|refine Ca ?_ _));exact Ba.out) hb);have Ac:=ja.mk (Qa (by repeat (first|(with_reducible first|exact HB.out|apply qa|apply ia|apply ua|refine Aa ?_ Wa.out|refine Aa ?_ Sb.out)|exact HB.out)) hb);have ud:=ja.mk (Tb);have ef:=ja.mk ((by rw [hg];exact (Ra (by repeat (first|(with_reducible first|exact HB.out|apply qa|apply ia|apply ua|refine Aa ?_ Wa.out|refine Aa ?_ Sb.out)|exact HB.out))):w.heap.size ≤ fe));have Ag:=ja.mk ((by rw [hg];exact (Ra (by repeat (first|(with_reducible first|exact HB.out|apply qa|apply ia|apply ua|refine Aa ?_ Wa.out|refine Aa ?_ Sb.out)|exact HB.out))):w.heap.size ≤ fe));have dh:=ja.mk ((by rw [hg];exact Nat.ne_of_lt (Lc (g:=Ea) (o:=.cells #[.int .i64 Pc,.int .i64 Ma,.int .i64 Oa,.int .i64 Pa,.int .i64 nc,.int .i64 Od,.string Nd] 161 (0,0)) (by (with_reducible repeat (first|refine Da ?_ _|refine Ga ?_|refine Ca ?_ _));exact za.out)):Ea ≠ fe));have Fv:=ja.mk ((by rw [hg];exact Nat.ne_of_gt (Lc (g:=Ea) (o:=.cells #[.int .i64 Pc,.int .i64 Ma,.int .i64 Oa,.int .i64 Pa,.int .i64 nc,.int .i64 Od,.string Nd] 161 (0,0)) (by (with_reducible repeat (first|refine Da ?_ _|refine Ga ?_|refine Ca ?_ _));exact za.out)):fe ≠ Ea));have Dv:=ja.mk ((by rw [hg];exact Nat.ne_of_lt (Lc (g:=Fa) (o:=.cells #[.int .i64 0,.int .i64 0,.int .i64 0,.int .i64 0,.int .i64 0,.int .i64 0,.string (⟨#[]⟩:ByteArray)] 70 (0,0)) (by (with_reducible repeat (first|refine Da ?_ _|refine Ga ?_|refine Ca ?_ _));exact Ba.out)):Fa ≠ fe));have xJ:=ja.mk ((by rw [hg];exact Nat.ne_of_gt (Lc (g:=Fa) (o:=.cells #[.int .i64 0,.int .i64 0,.int .i64 0,.int .i64 0,.int .i64 0,.int .i64 0,.string (⟨#[]⟩:ByteArray)] 70 (0,0)) (by (with_reducible repeat (first|refine Da ?_ _|refine Ga ?_|refine Ca ?_ _));exact Ba.out)):fe ≠ Fa));clear za;clear Ba;clear HB;have za:=Gb;have Ba:=Vb;have HB:=Ac;have Bd:=ud;have LL:=ef;have Ai:=Ag;have dg:=dh;have Wg:=Fv;have Ke:=Dv;have Vg:=xJ;clear Gb Vb Ac ud ef Ag dh Fv Dv xJ;clear hb Tb hg;have nam:=Ua.out;have kam:=jb.out;have faf:=dg.out;have Sae:=Wg.out;have Tp:w4.cell? ⟨Ea,0,none⟩=some (.int .i64 Pc):=(ga za.out 0).trans rfl;have Sp:w4.cell? ⟨Ea,1,none⟩=some (.int .i64 Ma):=(ga za.out 1).trans rfl;have Rp:w4.cell? ⟨Ea,2,none⟩=some (.int .i64 Oa):=(ga za.out 2).trans rfl;have Qp:w4.cell? ⟨Ea,3,none⟩=some (.int .i64 Pa):=(ga za.out 3).trans rfl;have Pp:w4.cell? ⟨Ea,4,none⟩=some (.int .i64 nc):=(ga za.out 4).trans rfl;have BK:w4.cell? ⟨Ea,5,none⟩=some (.int .i64 Od):=(ga za.out 5).trans rfl;have AK:w4.cell? ⟨Ea,6,none⟩=some (.string Nd):=(ga za.out 6).trans rfl;have Dp:=aa za.out 0;have Cp:=aa za.out 1;have Bp:=aa za.out 2;have Ap:=aa za.out 3;have zp:=aa za.out 4;have dK:=aa za.out 5;have cK:=aa za.out 6;have daf:=Vg.out;have Qae:=Ke.out;have Mo:w4.cell? ⟨fe,0,none⟩=some (.int .i64 0):=(ga Bd.out 0).trans rfl;have Lo:w4.cell? ⟨fe,1,none⟩=some (.int .i64 0):=(ga Bd.out 1).trans rfl;have Ko:w4.cell? ⟨fe,2,none⟩=some (.int .i64 0):=(ga Bd.out 2).trans rfl;have Jo:w4.cell? ⟨fe,3,none⟩=some (.int .i64 0):=(ga Bd.out 3).trans rfl;have Io:w4.cell? ⟨fe,4,none⟩=some (.int .i64 0):=(ga Bd.out 4).trans rfl;have cU:w4.cell? ⟨fe,5,none⟩=some (.int .i64 0):=(ga Bd.out 5).trans rfl;have bU:w4.cell? ⟨fe,6,none⟩=some (.string (⟨#[]⟩:ByteArray)):=(ga Bd.out 6).trans rfl;have Ho:=aa Bd.out 0;have Fo:=aa Bd.out 1;have Eo:=aa Bd.out 2;have Co:=aa Bd.out 3;have Bo:=aa Bd.out 4;have CT:=aa Bd.out 5;have zT:=aa Bd.out 6;have Fk:w4.cell? ⟨Fa,0,none⟩=some (.int .i64 0):=(ga Ba.out 0).trans rfl;have Ek:w4.cell? ⟨Fa,1,none⟩=some (.int .i64 0):=(ga Ba.out 1).trans rfl;have Dk:w4.cell? ⟨Fa,2,none⟩=some (.int .i64 0):=(ga Ba.out 2).trans rfl;have Ck:w4.cell? ⟨Fa,3,none⟩=some (.int .i64 0):=(ga Ba.out 3).trans rfl;have Bk:w4.cell? ⟨Fa,4,none⟩=some (.int .i64 0):=(ga Ba.out 4).trans rfl;have fB:w4.cell? ⟨Fa,5,none⟩=some (.int .i64 0):=(ga Ba.out 5).trans rfl;have eB:w4.cell? ⟨Fa,6,none⟩=some (.string (⟨#[]⟩:ByteArray)):=(ga Ba.out 6).trans rfl;have xk:=aa Ba.out 0;have wk:=aa Ba.out 1;have vk:=aa Ba.out 2;have uk:=aa Ba.out 3;have qk:=aa Ba.out 4;have CA:=aa Ba.out 5;have BA:=aa Ba.out 6))
 refine bodyPost_ret (results_cell_row rfl _ _ Fa 70 #[.int .i64 Pc,.int .i64 Ma,.int .i64 Oa,.int .i64 Pa,.int .i64 nc,.int .i64 Od,.string Nd] (0,0) _ rfl (by (with_reducible repeat (first|refine Da ?_ _|refine Ga ?_|refine Ca ?_ _));refine Wb (cs:=#[.int .i64 Pc,.int .i64 Ma,.int .i64 Oa,.int .i64 Pa,.int .i64 nc,.int .i64 Od,.string (⟨#[]⟩:ByteArray)]) ?_ 6 _ rfl;(with_reducible repeat (first|refine Da ?_ _|refine Ga ?_|refine Ca ?_ _));refine Wb (cs:=#[.int .i64 Pc,.int .i64 Ma,.int .i64 Oa,.int .i64 Pa,.int .i64 nc,.int .i64 0,.string (⟨#[]⟩:ByteArray)]) ?_ 5 _ rfl;(with_reducible repeat (first|refine Da ?_ _|refine Ga ?_|refine Ca ?_ _));refine Wb (cs:=#[.int .i64 Pc,.int .i64 Ma,.int .i64 Oa,.int .i64 Pa,.int .i64 0,.int .i64 0,.string (⟨#[]⟩:ByteArray)]) ?_ 4 _ rfl;(with_reducible repeat (first|refine Da ?_ _|refine Ga ?_|refine Ca ?_ _));refine Wb (cs:=#[.int .i64 Pc,.int .i64 Ma,.int .i64 Oa,.int .i64 0,.int .i64 0,.int .i64 0,.string (⟨#[]⟩:ByteArray)]) ?_ 3 _ rfl;(with_reducible repeat (first|refine Da ?_ _|refine Ga ?_|refine Ca ?_ _));refine Wb (cs:=#[.int .i64 Pc,.int .i64 Ma,.int .i64 0,.int .i64 0,.int .i64 0,.int .i64 0,.string (⟨#[]⟩:ByteArray)]) ?_ 2 _ rfl;(with_reducible repeat (first|refine Da ?_ _|refine Ga ?_|refine Ca ?_ _));refine Wb (cs:=#[.int .i64 Pc,.int .i64 0,.int .i64 0,.int .i64 0,.int .i64 0,.int .i64 0,.string (⟨#[]⟩:ByteArray)]) ?_ 1 _ rfl;(with_reducible repeat (first|refine Da ?_ _|refine Ga ?_|refine Ca ?_ _));refine Wb (cs:=#[.int .i64 0,.int .i64 0,.int .i64 0,.int .i64 0,.int .i64 0,.int .i64 0,.string (⟨#[]⟩:ByteArray)]) ?_ 0 _ rfl;(with_reducible repeat (first|refine Da ?_ _|refine Ga ?_|refine Ca ?_ _));refine jd ?_ Ke.out _;(with_reducible repeat (first|refine Da ?_ _|refine Ga ?_|refine Ca ?_ _));refine jd ?_ Ke.out _;(with_reducible repeat (first|refine Da ?_ _|refine Ga ?_|refine Ca ?_ _));refine jd ?_ Ke.out _;(with_reducible repeat (first|refine Da ?_ _|refine Ga ?_|refine Ca ?_ _));refine jd ?_ Ke.out _;(with_reducible repeat (first|refine Da ?_ _|refine Ga ?_|refine Ca ?_ _));refine jd ?_ Ke.out _;(with_reducible repeat (first|refine Da ?_ _|refine Ga ?_|refine Ca ?_ _));refine jd ?_ Ke.out _;(with_reducible repeat (first|refine Da ?_ _|refine Ga ?_|refine Ca ?_ _));refine jd ?_ Ke.out _;(with_reducible repeat (first|refine Da ?_ _|refine Ga ?_|refine Ca ?_ _));exact Ba.out) Try.underlying70 rfl (by kernel_rfl)) rfl ?_
 exact ⟨by first|rfl|(simp [La,Ka] <;> rfl)|(simp [*,La,Ka] <;> rfl),by repeat (first|(with_reducible first|exact HB.out|apply qa|apply ia|apply ua|refine Aa ?_ Wa.out|refine Aa ?_ Sb.out|refine Aa ?_ Ai.out)|exact HB.out)⟩
def Tc.l0:Nat→List (gm)→List (Bf)→Int→Option ((List (Bf)))
 | 0,_,_,_=>none
 | k + 1,x0,x3,x4=>if x4 < (x0.length:Int) then (if 0 ≤ x4 then ((Sk.f ((xd x0 x4).f0) ((xd x0 x4).f1) ((xd x0 x4).f2) ((xd x0 x4).f3) ((xd x0 x4).f4) ((xd x0 x4).f5) ((xd x0 x4).f6)).bind fun ep=>(if x4 < (x3.length:Int) then (Tc.l0 k x0 (x3.set (x4:Int).toNat (⟨ep.1,ep.2.1,ep.2.2.1,ep.2.2.2.1,ep.2.2.2.2.1,ep.2.2.2.2.2.1,ep.2.2.2.2.2.2⟩:Bf)) (wrap64 (x4 + 1))) else (none))) else (none)) else (some x3)
def Tc.f (k:Nat) (l0:List (gm)):Option ((List (Bf))):=if 0 ≤ (l0.length:Int) then (if ((l0.length:Int):Int).toNat ≤ 4398046511104 then (Tc.l0 k l0 (List.replicate ((l0.length:Int):Int).toNat Fq) 0) else (none)) else (none)
theorem Tc.Sd:∀ k,(∀ y0 y1 y2,Lb (Tc.l0 k y0 y1 y2) (Tc.l0 (k + 1) y0 y1 y2))
 | 0=>fun _ _ _ r h=>by simp [Tc.l0] at h
 | k + 1=>by
  have Ff:=Tc.Sd k
  ·intro y0 y1 y2
   unfold Tc.l0
   repeat' first
   | (with_reducible exact Ff _ _ _)
   | (with_reducible exact Lb.refl _)
   | (with_reducible exact Lb.none _)
   | (with_reducible refine Lb.ite ?_ ?_)
   | (with_reducible refine Lb.bind ?_ (fun _=>?_))
   | exact Ff _ _ _
   | exact Lb.none _
   | refine Lb.ite ?_ ?_
   | refine Lb.bind ?_ (fun _=>?_)
theorem Tc.mono:∀ a0 k,Lb (Tc.f k a0) (Tc.f (k + 1) a0):=by
 intro a0 k
 have Ff:=Tc.Sd k
 unfold Tc.f
 repeat' first
   | (with_reducible exact Ff _ _ _)
   | (with_reducible exact Lb.refl _)
   | (with_reducible exact Lb.none _)
   | (with_reducible refine Lb.ite ?_ ?_)
   | (with_reducible refine Lb.bind ?_ (fun _=>?_))
   | exact Ff _ _ _
   | exact Lb.none _
   | refine Lb.ite ?_ ?_
   | refine Lb.bind ?_ (fun _=>?_)
set_option maxHeartbeats 8000000 in
set_option maxRecDepth 100000 in
theorem Tc.calls (k:Nat) (A0:Option Addr) (c0:Nat) (l0:List (gm)) (r:List (Bf)) (w:World) (hr0:Kd.C ay w A0 l0.length l0) (hc0:l0.length ≤ c0) (h:Tc.f k l0=some r) :
  Calls Try.prog 112 #[.slice A0 l0.length c0] w fun e w'=>∃ v0_:Value,e = .returned (v0_)∧Kd.R Ij 70 w' w.heap.size (fun _=>True) v0_ r∧Below w.heap.size w w':=by
 have PJ:=Try.underlying161
 have YB:=Try.underlying70
 have Gh:=ja.mk hr0
 have dw:=ja.mk hc0
 clear hr0 hc0
 have HB:=ja.mk (Below.refl w.heap.size w)
 have H:(if 0 ≤ (l0.length:Int) then (if ((l0.length:Int):Int).toNat ≤ 4398046511104 then (Tc.l0 k l0 (List.replicate ((l0.length:Int):Int).toNat Fq) 0) else (none)) else (none))=some r:=h
 clear h
 by_cases c2:0 ≤ (l0.length:Int)
 ·rw [if_pos c2] at H
  have mz:=eq_true c2
  have iE:decide (0 ≤ (l0.length:Int))=true:=decide_eq_true c2
  clear c2
  by_cases c3:((l0.length:Int):Int).toNat ≤ 4398046511104
  ·rw [if_pos c3] at H
   have Zh:=eq_true c3
   have Sr:decide (((l0.length:Int):Int).toNat ≤ 4398046511104)=true:=decide_eq_true c3
   clear c3
   obtain ⟨bg,hy101⟩:∃ y_:List (Bf),y_=(List.replicate ((l0.length:Int):Int).toNat Fq):=⟨_,rfl⟩
   replace H:(Tc.l0 k l0 bg 0)=some r:=by first|(rw [hy101];with_reducible exact H)|(have Eh:=(Option.bind_some _ _).symm.trans H;rw [hy101];with_reducible exact Eh)|(have Eh:=(Option.bind_some _ _).symm.trans H;with_reducible exact Eh)|with_reducible exact H|(rw [hy101];exact H)|exact H
   have ek:=ja.mk hy101
   clear hy101
   have H':=ja.mk H
   clear H
   go_enter Try.func112,Try.ntmps112
   go_wp2_with (first|((with_reducible refine Kb (N:=7) rfl ?_);refine Kd.rE Ij _ 70 rfl (N:=7) rfl 66 _ _ rfl (l0.length:Int) rfl rfl Try.underlying66 (.agg #[(.int .i64 0),(.int .i64 0),(.int .i64 0),(.int .i64 0),(.int .i64 0),(.int .i64 0),(.string ⟨#[]⟩)]) 64 XS rfl (by decide) (by omega) Fq (ok:=fun _=>True) (vp:=fun _=>True) (zm _ _ _ Fq ) (fun _ hk=>hk) trivial (of_decide_eq_true (by first|(with_reducible assumption)|assumption)) (Nat.le_trans (Nat.mul_le_mul_right _ (of_decide_eq_true (by first|(with_reducible assumption)|assumption):(l0.length:Int).toNat ≤ 4398046511104)) (by omega)) (Below.refl _ _) (Nat.le_refl _) ?_;intro IB w4 bC hb CD Jn;clear CD Jn;(first|rw [← ek.out] at bC|(simp only [Int.reduceToNat] at bC;rw [← ek.out] at bC));have Gb:=ja.mk (Kd.zi bC (Ra (by repeat (first|(with_reducible first|exact HB.out|apply qa|apply ia|apply ua)|exact HB.out))));have Vb:=ja.mk (Qa (by repeat (first|(with_reducible first|exact HB.out|apply qa|apply ia|apply ua)|exact HB.out)) hb);clear HB;have gp:=Gb;have HB:=Vb;clear Gb Vb;clear hb bC))
   go_loopg [4] k (fun kq v4 w'=>∃ (lf:List (Bf)) (Jd:Int),v4 = .int .i64 Jd∧ja (Tc.l0 kq l0 lf Jd=some r)∧ja (kq ≤ k)∧ja (Kd.R Ij 70 w' w.heap.size (fun _=>True) IB lf)∧ja (Below w.heap.size w w'))
   case atStart=>exact ⟨(bg),(0),(by first|rfl|(simp;done)|(simp [*];done)),H',⟨Nat.le_refl _⟩,⟨by (with_reducible repeat (first|apply Kd.Dc|apply Kd.Ic|apply Kd.Zc));exact gp.out⟩,⟨by repeat (first|(with_reducible first|exact HB.out|apply qa|apply ia|apply ua)|exact HB.out)⟩⟩
   case round =>
    clear H'
    try clear c1
    try clear c2
    try clear mz
    try clear iE
    try clear p2
    try clear c3
    try clear Zh
    try clear Sr
    (try clear HA)
    (try clear Yg)
    (try clear di)
    (try clear HB)
    obtain ⟨lf,Jd,rfl,HA,Yg,di,HB⟩:=hrel
    cases gk with
    | zero=>exact absurd HA.out (by simp [Tc.l0])
    | succ k1 =>
     have H:=HA.out
     clear HA
     simp only [Tc.l0] at H
     by_cases c6:Jd < (l0.length:Int)
     ·rw [if_pos c6] at H
      have cm:decide (Jd < (l0.length:Int))=true:=decide_eq_true c6
      clear c6
      by_cases c7:0 ≤ Jd
      ·rw [if_pos c7] at H
       have bp:decide (0 ≤ Jd)=true:=decide_eq_true c7
       clear c7
       replace H:=Option.bind_eq_some_iff.mp H
       obtain ⟨⟨t105,t106,t107,t108,t109,t110,t111⟩,OL,H⟩:=H
       replace H:(if Jd < (lf.length:Int) then (Tc.l0 k1 l0 (lf.set (Jd:Int).toNat (⟨t105,t106,t107,t108,t109,t110,t111⟩:Bf)) (wrap64 (Jd + 1))) else (none))=some r:=H
       have A8:=ja.mk OL
       clear OL
       by_cases c9:Jd < (lf.length:Int)
       ·rw [if_pos c9] at H
        have xy:decide (Jd < (lf.length:Int))=true:=decide_eq_true c9
        clear c9
        obtain ⟨y112,hy112⟩:∃ y_:List (Bf),y_=(lf.set (Jd:Int).toNat (⟨t105,t106,t107,t108,t109,t110,t111⟩:Bf)):=⟨_,rfl⟩
        replace H:(Tc.l0 k1 l0 y112 (wrap64 (Jd + 1)))=some r:=by first|(rw [hy112];with_reducible exact H)|(have Eh:=(Option.bind_some _ _).symm.trans H;rw [hy112];with_reducible exact Eh)|(have Eh:=(Option.bind_some _ _).symm.trans H;with_reducible exact Eh)|with_reducible exact H|(rw [hy112];exact H)|exact H
        have Oy:=ja.mk hy112
        clear hy112
        have H':=ja.mk H
        clear H
        have zh:0 ≤ (Jd:Int):=of_decide_eq_true (by first|(with_reducible assumption)|assumption)
        have xh:Jd < (l0.length:Int):=of_decide_eq_true (by first|(with_reducible assumption)|assumption)
        obtain ⟨Wj,um,Zd,Me,Ue,Te,Re,Qg,Pg⟩:=rB Gh.out Jd zh xh
        cases um
        replace Zd:=(HB.out.cell (World.block_lt_of_cell? w _ Zd)).trans Zd
        replace Me:=(HB.out.cell (World.block_lt_of_cell? w _ Me)).trans Me
        replace Ue:=(HB.out.cell (World.block_lt_of_cell? w _ Ue)).trans Ue
        replace Te:=(HB.out.cell (World.block_lt_of_cell? w _ Te)).trans Te
        replace Re:=(HB.out.cell (World.block_lt_of_cell? w _ Re)).trans Re
        replace Qg:=(HB.out.cell (World.block_lt_of_cell? w _ Qg)).trans Qg
        replace Pg:=(HB.out.cell (World.block_lt_of_cell? w _ Pg)).trans Pg
        replace zh:=eq_true zh
        replace xh:=eq_true xh
        go_wp2_with (first|((with_reducible refine mb (f:=129) rfl ?_);refine yd (some 20) rfl rfl Try.func129 (by kernel_rfl) rfl #[.agg #[.int .i64 ((xd l0 Jd).f0),.int .i64 ((xd l0 Jd).f1),.int .i64 ((xd l0 Jd).f2),.int .i64 ((xd l0 Jd).f3),.int .i64 ((xd l0 Jd).f4),.int .i64 ((xd l0 Jd).f5),.string ((xd l0 Jd).f6)]] rfl (by (try simp only [List.map_toArray,List.map_cons,List.map_nil]);first|done|rfl|(simp only [List.length_drop,List.length_take];rfl)) ?_;(with_reducible refine (Sk.calls ((xd l0 Jd).f0) ((xd l0 Jd).f1) ((xd l0 Jd).f2) ((xd l0 Jd).f3) ((xd l0 Jd).f4) ((xd l0 Jd).f5) ((xd l0 Jd).f6) t105 t106 t107 t108 t109 t110 t111 _ A8.out).mono ?_);rintro e sj ⟨rfl,hb⟩;refine ⟨_,rfl,?_⟩;have Gb:=ja.mk (Kd.Ce (by (with_reducible repeat (first|apply Kd.Dc|apply Kd.Ic|apply Kd.Zc));exact di.out) hb);have Vb:=ja.mk (Qa (by repeat (first|(with_reducible first|exact HB.out|apply qa|apply ia|apply ua)|exact HB.out)) hb);clear di;clear HB;have di:=Gb;have HB:=Vb;clear Gb Vb;(try clear hb);(try clear hb2);(try clear hk);(try clear hi);have rD:0 ≤ (Jd:Int):=of_decide_eq_true (by first|(with_reducible assumption)|assumption);have nD:(Jd:Int) < ((lf.length:Int):Int):=of_decide_eq_true (by first|(with_reducible assumption)|assumption);obtain ⟨ei,Yu,eE,ZK,jU,Sag,vv⟩:=Kd.Qo di.out (by omega);(first|cases eE|(injection eE with Ei en_ ec_;(first|subst Ei|(injection Ei with Ei;subst Ei));subst ec_;clear en_));have wv:=ja.mk ZK;have pah:=ja.mk vv;clear ZK jU vv;obtain ⟨I3,jC,qC,Cj,Bj⟩:=Kd.ah di.out Fq (Jd:Int) rD nD;obtain rfl:=Ug qC;have OJ:sj.cell? ⟨ei,(Jd:Int).toNat * 7,none⟩=some (.int .i64 ((Ja lf Jd).f0)):=Cj 0 _ rfl;have NJ:sj.cell? ⟨ei,(Jd:Int).toNat * 7 + 1,none⟩=some (.int .i64 ((Ja lf Jd).f1)):=Cj 1 _ rfl;have MJ:sj.cell? ⟨ei,(Jd:Int).toNat * 7 + 2,none⟩=some (.int .i64 ((Ja lf Jd).f2)):=Cj 2 _ rfl;have LJ:sj.cell? ⟨ei,(Jd:Int).toNat * 7 + 3,none⟩=some (.int .i64 ((Ja lf Jd).f3)):=Cj 3 _ rfl;have KJ:sj.cell? ⟨ei,(Jd:Int).toNat * 7 + 4,none⟩=some (.int .i64 ((Ja lf Jd).f4)):=Cj 4 _ rfl;have rT:sj.cell? ⟨ei,(Jd:Int).toNat * 7 + 5,none⟩=some (.int .i64 ((Ja lf Jd).f5)):=Cj 5 _ rfl;have qT:sj.cell? ⟨ei,(Jd:Int).toNat * 7 + 6,none⟩=some (.string ((Ja lf Jd).f6)):=Cj 6 _ rfl;have zK:sj.frozen? ⟨ei,(Jd:Int).toNat * 7,none⟩=false:=Bj 0;have yK:sj.frozen? ⟨ei,(Jd:Int).toNat * 7 + 1,none⟩=false:=Bj 1;have xK:sj.frozen? ⟨ei,(Jd:Int).toNat * 7 + 2,none⟩=false:=Bj 2;have wK:sj.frozen? ⟨ei,(Jd:Int).toNat * 7 + 3,none⟩=false:=Bj 3;have vK:sj.frozen? ⟨ei,(Jd:Int).toNat * 7 + 4,none⟩=false:=Bj 4;have aU:sj.frozen? ⟨ei,(Jd:Int).toNat * 7 + 5,none⟩=false:=Bj 5;have ZT:sj.frozen? ⟨ei,(Jd:Int).toNat * 7 + 6,none⟩=false:=Bj 6;clear jC Cj Bj qC;replace rD:=eq_true rD;replace nD:=eq_true nD;have CQ:=ja.mk (show Kd.R Ij 70 sj w.heap.size (fun _=>True) (.slice (some ⟨ei,0,none⟩) lf.length Yu) lf from (by (with_reducible repeat (first|apply Kd.Dc|apply Kd.Ic|apply Kd.Zc));exact di.out));obtain ⟨G3,Bz,oC,jj,Aj⟩:=Kd.ah CQ.out Fq (Jd:Int) (of_decide_eq_true (by first|(with_reducible assumption)|assumption)) (by have h_:(Jd:Int) < ((lf.length:Int):Int):=of_decide_eq_true (by first|(with_reducible assumption)|assumption);first|exact h_|(have e_:=(Kd.Cc di.out).1;omega)|simpa using h_);obtain rfl:=Ug oC;have xE:=Kd.Pn CQ.out (Jd:Int) (of_decide_eq_true (by first|(with_reducible assumption)|assumption)) (by have h_:(Jd:Int) < ((lf.length:Int):Int):=of_decide_eq_true (by first|(with_reducible assumption)|assumption);first|exact h_|(have e_:=(Kd.Cc di.out).1;omega)|simpa using h_) (seg:=[.int .i64 t105,.int .i64 t106,.int .i64 t107,.int .i64 t108,.int .i64 t109,.int .i64 t110,.string t111]) (j:=0) Bz jj (show 7 ≤ 7 from by decide) (x':=(⟨t105,t106,t107,t108,t109,t110,t111⟩:Bf)) (zm _ _ _ (⟨t105,t106,t107,t108,t109,t110,t111⟩:Bf) ) (fun _ hk=>hk);have fA:=jj 0 _ rfl;(try simp only [show (Ij).sz=7 from rfl,Nat.mul_one,Nat.add_zero] at fA);have IA:=Aj 0;(try simp only [show (Ij).sz=7 from rfl,Nat.mul_one,Nat.add_zero] at IA);have eA:=jj 1 _ rfl;(try simp only [show (Ij).sz=7 from rfl,Nat.mul_one,Nat.add_zero] at eA);have GA:=Aj 1;(try simp only [show (Ij).sz=7 from rfl,Nat.mul_one,Nat.add_zero] at GA);have dA:=jj 2 _ rfl;(try simp only [show (Ij).sz=7 from rfl,Nat.mul_one,Nat.add_zero] at dA);have FA:=Aj 2;(try simp only [show (Ij).sz=7 from rfl,Nat.mul_one,Nat.add_zero] at FA);have cA:=jj 3 _ rfl;(try simp only [show (Ij).sz=7 from rfl,Nat.mul_one,Nat.add_zero] at cA);have EA:=Aj 3;(try simp only [show (Ij).sz=7 from rfl,Nat.mul_one,Nat.add_zero] at EA);have aA:=jj 4 _ rfl;(try simp only [show (Ij).sz=7 from rfl,Nat.mul_one,Nat.add_zero] at aA);have DA:=Aj 4;(try simp only [show (Ij).sz=7 from rfl,Nat.mul_one,Nat.add_zero] at DA);have JJ:=jj 5 _ rfl;(try simp only [show (Ij).sz=7 from rfl,Nat.mul_one,Nat.add_zero] at JJ);have uK:=Aj 5;(try simp only [show (Ij).sz=7 from rfl,Nat.mul_one,Nat.add_zero] at uK);have IJ:=jj 6 _ rfl;(try simp only [show (Ij).sz=7 from rfl,Nat.mul_one,Nat.add_zero] at IJ);have tK:=Aj 6;(try simp only [show (Ij).sz=7 from rfl,Nat.mul_one,Nat.add_zero] at tK);clear Bz jj Aj oC)|((with_reducible refine qf (t:=70) (p:=21) rfl ?_);refine Xe (t:=70) (p:=21) (v:=?vo_w13) (w1:=(((((((sj.setCell ⟨ei,(Jd:Int).toNat * 7,none⟩ (.int .i64 t105)).setCell ⟨ei,(Jd:Int).toNat * 7 + 1,none⟩ (.int .i64 t106)).setCell ⟨ei,(Jd:Int).toNat * 7 + 2,none⟩ (.int .i64 t107)).setCell ⟨ei,(Jd:Int).toNat * 7 + 3,none⟩ (.int .i64 t108)).setCell ⟨ei,(Jd:Int).toNat * 7 + 4,none⟩ (.int .i64 t109)).setCell ⟨ei,(Jd:Int).toNat * 7 + 5,none⟩ (.int .i64 t110)).setCell ⟨ei,(Jd:Int).toNat * 7 + 6,none⟩ (.string t111))) ?hg ?ho ?hn ?hr ?_;(case ho=>rfl);(case hg=>rfl);(case hn=>rfl);(case hr=>first|(go_simp;done)|(go_simp;rfl));intro FB hw;have hg:sj.grownBy FB (some ei):=(by rw [hw];exact xE.2);have Gn:Kd.R Ij 70 FB w.heap.size (fun _=>True) (.slice (some ⟨ei,0,none⟩) lf.length Yu) y112:=(by rw [hw,Oy.out];exact xE.1);clear xE;have Gb:=ja.mk (Gn);have Vb:=ja.mk ((by rw [hw];exact Aa (Aa (Aa (Aa (Aa (Aa (Aa (HB.out) wv.out) wv.out) wv.out) wv.out) wv.out) wv.out) wv.out:Below w.heap.size w FB));clear di;clear HB;have di:=Gb;have HB:=Vb;clear Gb Vb;clear hg hw Gn))
        go_roundg k1
        case measure=>have:=Yg.out;omega
        case rel=>exact ⟨(y112),(wrap64 (Jd + 1)),(by first|rfl|(simp;done)|(simp [*];done)),H',⟨by have:=Yg.out;omega⟩,⟨by (with_reducible repeat (first|apply Kd.Dc|apply Kd.Ic|apply Kd.Zc));exact di.out⟩,⟨by repeat (first|(with_reducible first|exact HB.out|apply qa|apply ia|apply ua)|exact HB.out)⟩⟩
       ·rw [if_neg c9] at H
        exact absurd H (by simp)
      ·rw [if_neg c7] at H
       exact absurd H (by simp)
     ·rw [if_neg c6] at H
      have cm:decide (Jd < (l0.length:Int))=false:=decide_eq_false c6
      clear c6
      obtain rfl:=Option.some.inj H
      go_wp2
      go_ret
      exact ⟨_,by first|rfl|(simp [La,Ka] <;> rfl)|(simp [*,La,Ka] <;> rfl),by (with_reducible repeat (first|apply Kd.Dc|apply Kd.Ic|apply Kd.Zc));exact di.out,by repeat (first|(with_reducible first|exact HB.out|apply qa|apply ia|apply ua)|exact HB.out)⟩
  ·rw [if_neg c3] at H
   exact absurd H (by simp)
 ·rw [if_neg c2] at H
  exact absurd H (by simp)
def pg.f (k:Nat) (Ta:List (gm)) (Ma:Int) (Oa:Int) (Pa:Int) (nc:Int):Option ((List (Bf)) × Int × Int × Int × Int):=(Tc.f k Ta).bind fun t104=>(some (t104,Ma,Oa,Pa,nc))
theorem pg.mono:∀ a0 a1 a2 a3 a4 k,Lb (pg.f k a0 a1 a2 a3 a4) (pg.f (k + 1) a0 a1 a2 a3 a4):=by
 intro a0 a1 a2 a3 a4 k
 unfold pg.f
 repeat' first
   | (with_reducible exact Tc.mono _ _)
   | (with_reducible exact Lb.refl _)
   | (with_reducible exact Lb.none _)
   | (with_reducible refine Lb.ite ?_ ?_)
   | (with_reducible refine Lb.bind ?_ (fun _=>?_))
   | exact Tc.mono _ _
   | exact Lb.none _
   | refine Lb.ite ?_ ?_
   | refine Lb.bind ?_ (fun _=>?_)
set_option maxHeartbeats 8000000 in
set_option maxRecDepth 100000 in
theorem pg.calls (k:Nat) (Cb:Option Addr) (Bb:Nat) (Ta:List (gm)) (Ma:Int) (Oa:Int) (Pa:Int) (nc:Int) (r1:List (Bf)) (r2:Int) (r3:Int) (r4:Int) (r5:Int) (w:World) (Rf:Kd.C ay w Cb Ta.length Ta) (Pf:Ta.length ≤ Bb) (h:pg.f k Ta Ma Oa Pa nc=some (r1,r2,r3,r4,r5)) :
  Calls Try.prog 88 #[.agg #[.slice Cb Ta.length Bb,.int .i64 Ma,.int .i64 Oa,.int .i64 Pa,.int .i64 nc]] w fun e w'=>∃ v0_:Value,e = .returned (.agg #[v0_,.int .i64 r2,.int .i64 r3,.int .i64 r4,.int .i64 r5])∧Kd.R Ij 70 w' w.heap.size (fun _=>True) v0_ r1∧Below w.heap.size w w':=by
 have QJ:=Try.underlying118
 have JI:=Try.underlying68
 have ig:=ja.mk Rf
 have mg:=ja.mk Pf
 clear Rf Pf
 have HB:=ja.mk (Below.refl w.heap.size w)
 have H:((Tc.f k Ta).bind fun t104=>(some (t104,Ma,Oa,Pa,nc)))=some (r1,r2,r3,r4,r5):=h
 clear h
 replace H:=Option.bind_eq_some_iff.mp H
 obtain ⟨t104,YL,H⟩:=H
 replace H:(some (t104,Ma,Oa,Pa,nc))=some (r1,r2,r3,r4,r5):=H
 have A2:=ja.mk YL
 clear YL
 simp only [Option.some.injEq,Prod.mk.injEq] at H
 obtain ⟨rfl,rfl,rfl,rfl,rfl⟩:=H
 go_enter Try.func88,Try.ntmps88
 go_wp2_with (first|((with_reducible refine Kb (N:=1) rfl ?_);refine Eb ?hg (N:=1) ?hd (cs:=#[.slice Cb Ta.length Bb,.int .i64 Ma,.int .i64 Oa,.int .i64 Pa,.int .i64 nc]) (t:=118) ?hr ?_;(case hd=>rfl);(case hg=>rfl);(case hr=>first|(go_simp;done)|(go_simp;rfl));intro Ea hg w3 Tb hb;have Gb:=ja.mk (Qa (by repeat (first|(with_reducible first|exact HB.out|apply qa|apply ia|apply ua)|exact HB.out)) hb);have Vb:=ja.mk (Tb);have Ac:=ja.mk ((by rw [hg];exact (Ra (by repeat (first|(with_reducible first|exact HB.out|apply qa|apply ia|apply ua)|exact HB.out))):w.heap.size ≤ Ea));have ud:=ja.mk ((by rw [hg];exact (Ra (by repeat (first|(with_reducible first|exact HB.out|apply qa|apply ia|apply ua)|exact HB.out))):w.heap.size ≤ Ea));clear HB;have HB:=Gb;have za:=Vb;have Be:=Ac;have Wa:=ud;clear Gb Vb Ac ud;clear hb Tb hg)|((with_reducible refine Kb (N:=2) rfl ?_);refine Eb ?hg (N:=2) ?hd (cs:=#[.slice none 0 0,.int .i64 0,.int .i64 0,.int .i64 0,.int .i64 0]) (t:=68) ?hr ?_;(case hd=>rfl);(case hg=>rfl);(case hr=>first|(go_simp;done)|(go_simp;rfl));intro Fa hg w4 Tb hb;have Gb:=ja.mk (gb (g:=Ea) (o:=.cells #[.slice Cb Ta.length Bb,.int .i64 Ma,.int .i64 Oa,.int .i64 Pa,.int .i64 nc] 118 (0,0)) (by (with_reducible repeat (first|refine Da ?_ _|refine Ga ?_|refine Ca ?_ _));exact za.out) hb);have Vb:=ja.mk (Qa (by repeat (first|(with_reducible first|exact HB.out|apply qa|apply ia|apply ua|refine Aa ?_ Wa.out)|exact HB.out)) hb);have Ac:=ja.mk (Tb);have ud:=ja.mk ((by rw [hg];exact (Ra (by repeat (first|(with_reducible first|exact HB.out|apply qa|apply ia|apply ua|refine Aa ?_ Wa.out)|exact HB.out))):w.heap.size ≤ Fa));have ef:=ja.mk ((by rw [hg];exact (Ra (by repeat (first|(with_reducible first|exact HB.out|apply qa|apply ia|apply ua|refine Aa ?_ Wa.out)|exact HB.out))):w.heap.size ≤ Fa));have Ag:=ja.mk ((by rw [hg];exact Nat.ne_of_lt (Lc (g:=Ea) (o:=.cells #[.slice Cb Ta.length Bb,.int .i64 Ma,.int .i64 Oa,.int .i64 Pa,.int .i64 nc] 118 (0,0)) (by (with_reducible repeat (first|refine Da ?_ _|refine Ga ?_|refine Ca ?_ _));exact za.out)):Ea ≠ Fa));have dh:=ja.mk ((by rw [hg];exact Nat.ne_of_gt (Lc (g:=Ea) (o:=.cells #[.slice Cb Ta.length Bb,.int .i64 Ma,.int .i64 Oa,.int .i64 Pa,.int .i64 nc] 118 (0,0)) (by (with_reducible repeat (first|refine Da ?_ _|refine Ga ?_|refine Ca ?_ _));exact za.out)):Fa ≠ Ea));clear za;clear HB;have za:=Gb;have HB:=Vb;have Ba:=Ac;have Df:=ud;have Sb:=ef;have Ua:=Ag;have jb:=dh;clear Gb Vb Ac ud ef Ag dh;clear hb Tb hg)|((with_reducible refine Kb (N:=3) rfl ?_);refine Eb ?hg (N:=3) ?hd (cs:=#[.slice none 0 0,.int .i64 0,.int .i64 0,.int .i64 0,.int .i64 0]) (t:=68) ?hr ?_;(case hd=>rfl);(case hg=>rfl);(case hr=>first|(go_simp;done)|(go_simp;rfl));intro fe hg w5 Tb hb;have Gb:=ja.mk (gb (g:=Ea) (o:=.cells #[.slice Cb Ta.length Bb,.int .i64 Ma,.int .i64 Oa,.int .i64 Pa,.int .i64 nc] 118 (0,0)) (by (with_reducible repeat (first|refine Da ?_ _|refine Ga ?_|refine Ca ?_ _));exact za.out) hb);have Vb:=ja.mk (gb (g:=Fa) (o:=.cells #[.slice none 0 0,.int .i64 0,.int .i64 0,.int .i64 0,.int .i64 0] 68 (0,0)) (by (with_reducible repeat (first|refine Da ?_ _|refine Ga ?_|refine Ca ?_ _));exact Ba.out) hb);have Ac:=ja.mk (Qa (by repeat (first|(with_reducible first|exact HB.out|apply qa|apply ia|apply ua|refine Aa ?_ Wa.out|refine Aa ?_ Sb.out)|exact HB.out)) hb);have ud:=ja.mk (Tb);have ef:=ja.mk ((by rw [hg];exact (Ra (by repeat (first|(with_reducible first|exact HB.out|apply qa|apply ia|apply ua|refine Aa ?_ Wa.out|refine Aa ?_ Sb.out)|exact HB.out))):w.heap.size ≤ fe));have Ag:=ja.mk ((by rw [hg];exact (Ra (by repeat (first|(with_reducible first|exact HB.out|apply qa|apply ia|apply ua|refine Aa ?_ Wa.out|refine Aa ?_ Sb.out)|exact HB.out))):w.heap.size ≤ fe));have dh:=ja.mk ((by rw [hg];exact Nat.ne_of_lt (Lc (g:=Ea) (o:=.cells #[.slice Cb Ta.length Bb,.int .i64 Ma,.int .i64 Oa,.int .i64 Pa,.int .i64 nc] 118 (0,0)) (by (with_reducible repeat (first|refine Da ?_ _|refine Ga ?_|refine Ca ?_ _));exact za.out)):Ea ≠ fe));have Fv:=ja.mk ((by rw [hg];exact Nat.ne_of_gt (Lc (g:=Ea) (o:=.cells #[.slice Cb Ta.length Bb,.int .i64 Ma,.int .i64 Oa,.int .i64 Pa,.int .i64 nc] 118 (0,0)) (by (with_reducible repeat (first|refine Da ?_ _|refine Ga ?_|refine Ca ?_ _));exact za.out)):fe ≠ Ea));have Dv:=ja.mk ((by rw [hg];exact Nat.ne_of_lt (Lc (g:=Fa) (o:=.cells #[.slice none 0 0,.int .i64 0,.int .i64 0,.int .i64 0,.int .i64 0] 68 (0,0)) (by (with_reducible repeat (first|refine Da ?_ _|refine Ga ?_|refine Ca ?_ _));exact Ba.out)):Fa ≠ fe));have xJ:=ja.mk ((by rw [hg];exact Nat.ne_of_gt (Lc (g:=Fa) (o:=.cells #[.slice none 0 0,.int .i64 0,.int .i64 0,.int .i64 0,.int .i64 0] 68 (0,0)) (by (with_reducible repeat (first|refine Da ?_ _|refine Ga ?_|refine Ca ?_ _));exact Ba.out)):fe ≠ Fa));clear za;clear Ba;clear HB;have za:=Gb;have Ba:=Vb;have HB:=Ac;have Bd:=ud;have LL:=ef;have Ai:=Ag;have dg:=dh;have Wg:=Fv;have Ke:=Dv;have Vg:=xJ;clear Gb Vb Ac ud ef Ag dh Fv Dv xJ;clear hb Tb hg;have faf:=Ua.out;have Sae:=jb.out;have eaf:=dg.out;have Rae:=Wg.out;have PD:w5.cell? ⟨Ea,0,none⟩=some (.slice Cb Ta.length Bb):=(ga za.out 0).trans rfl;have OD:w5.cell? ⟨Ea,1,none⟩=some (.int .i64 Ma):=(ga za.out 1).trans rfl;have ND:w5.cell? ⟨Ea,2,none⟩=some (.int .i64 Oa):=(ga za.out 2).trans rfl;have MD:w5.cell? ⟨Ea,3,none⟩=some (.int .i64 Pa):=(ga za.out 3).trans rfl;have LD:w5.cell? ⟨Ea,4,none⟩=some (.int .i64 nc):=(ga za.out 4).trans rfl;have JD:=aa za.out 0;have ID:=aa za.out 1;have GD:=aa za.out 2;have FD:=aa za.out 3;have ED:=aa za.out 4)|((with_reducible refine mb (f:=112) rfl ?_);refine yd (some 6) rfl rfl Try.func112 (by kernel_rfl) rfl #[.slice Cb Ta.length Bb] rfl (by (try simp only [List.map_toArray,List.map_cons,List.map_nil]);first|done|rfl|(simp only [List.length_drop,List.length_take];rfl)) ?_;(with_reducible refine (Tc.calls k _ _ Ta t104 _ ?side1 ?side2 A2.out).mono ?_);(case side1=>repeat (first|exact (Kd.Mb ig.out HB.out)|(with_reducible refine Kd.Sc ?_ _)|(with_reducible refine Kd.Rc ?_ _)|(with_reducible refine Kd.Qd ?_)));(case side2=>exact mg.out);rintro e w9 ⟨VV,rfl,Zm,hb⟩;refine ⟨_,rfl,?_⟩;have Gb:=ja.mk (Kd.zi Zm (Ra (by repeat (first|(with_reducible first|exact HB.out|apply qa|apply ia|apply ua|refine Aa ?_ Wa.out|refine Aa ?_ Sb.out|refine Aa ?_ Ai.out)|exact HB.out))));have Vb:=ja.mk (gb (g:=Ea) (o:=.cells #[.slice Cb Ta.length Bb,.int .i64 Ma,.int .i64 Oa,.int .i64 Pa,.int .i64 nc] 118 (0,0)) (by (with_reducible repeat (first|refine Da ?_ _|refine Ga ?_|refine Ca ?_ _));exact za.out) hb);have Ac:=ja.mk (gb (g:=Fa) (o:=.cells #[.slice none 0 0,.int .i64 0,.int .i64 0,.int .i64 0,.int .i64 0] 68 (0,0)) (by (with_reducible repeat (first|refine Da ?_ _|refine Ga ?_|refine Ca ?_ _));exact Ba.out) hb);have ud:=ja.mk (gb (g:=fe) (o:=.cells #[.slice none 0 0,.int .i64 0,.int .i64 0,.int .i64 0,.int .i64 0] 68 (0,0)) (by (with_reducible repeat (first|refine Da ?_ _|refine Ga ?_|refine Ca ?_ _));exact Bd.out) hb);have ef:=ja.mk (Qa (by repeat (first|(with_reducible first|exact HB.out|apply qa|apply ia|apply ua|refine Aa ?_ Wa.out|refine Aa ?_ Sb.out|refine Aa ?_ Ai.out)|exact HB.out)) hb);clear za;clear Ba;clear Bd;clear HB;have Ds:=Gb;have za:=Vb;have Ba:=Ac;have Bd:=ud;have HB:=ef;clear Gb Vb Ac ud ef;(try clear hb);(try clear hb2);(try clear hk);(try clear hi);(try clear Zm);obtain ⟨CE,Yu,eE⟩:=Kd.Hf Ds.out;subst eE;have iX:=Vg.out;have PW:=Ke.out;have gq:w9.cell? ⟨fe,0,none⟩=some (.slice none 0 0):=(ga Bd.out 0).trans rfl;have fq:w9.cell? ⟨fe,1,none⟩=some (.int .i64 0):=(ga Bd.out 1).trans rfl;have cq:w9.cell? ⟨fe,2,none⟩=some (.int .i64 0):=(ga Bd.out 2).trans rfl;have bq:w9.cell? ⟨fe,3,none⟩=some (.int .i64 0):=(ga Bd.out 3).trans rfl;have aq:w9.cell? ⟨fe,4,none⟩=some (.int .i64 0):=(ga Bd.out 4).trans rfl;have Np:=aa Bd.out 0;have Mp:=aa Bd.out 1;have Lp:=aa Bd.out 2;have Kp:=aa Bd.out 3;have Jp:=aa Bd.out 4;have aj:w9.cell? ⟨Ea,0,none⟩=some (.slice Cb Ta.length Bb):=(ga za.out 0).trans rfl;have Zi:w9.cell? ⟨Ea,1,none⟩=some (.int .i64 Ma):=(ga za.out 1).trans rfl;have Vl:w9.cell? ⟨Ea,2,none⟩=some (.int .i64 Oa):=(ga za.out 2).trans rfl;have Ul:w9.cell? ⟨Ea,3,none⟩=some (.int .i64 Pa):=(ga za.out 3).trans rfl;have Tl:w9.cell? ⟨Ea,4,none⟩=some (.int .i64 nc):=(ga za.out 4).trans rfl;have Yi:=aa za.out 0;have Xi:=aa za.out 1;have Sl:=aa za.out 2;have Rl:=aa za.out 3;have Ql:=aa za.out 4;have uo:w9.cell? ⟨Fa,0,none⟩=some (.slice none 0 0):=(ga Ba.out 0).trans rfl;have qo:w9.cell? ⟨Fa,1,none⟩=some (.int .i64 0):=(ga Ba.out 1).trans rfl;have Zp:w9.cell? ⟨Fa,2,none⟩=some (.int .i64 0):=(ga Ba.out 2).trans rfl;have Yp:w9.cell? ⟨Fa,3,none⟩=some (.int .i64 0):=(ga Ba.out 3).trans rfl;have Xp:w9.cell? ⟨Fa,4,none⟩=some (.int .i64 0):=(ga Ba.out 4).trans rfl;have jo:=aa Ba.out 0;have fo:=aa Ba.out 1;have Ip:=aa Ba.out 2;have Hp:=aa Ba.out 3;have Gp:=aa Ba.out 4))
 refine bodyPost_ret (results_cell_row rfl _ _ Fa 68 #[.slice CE t104.length Yu,.int .i64 Ma,.int .i64 Oa,.int .i64 Pa,.int .i64 nc] (0,0) _ rfl (by (with_reducible repeat (first|refine Da ?_ _|refine Ga ?_|refine Ca ?_ _));refine Wb (cs:=#[.slice CE t104.length Yu,.int .i64 Ma,.int .i64 Oa,.int .i64 Pa,.int .i64 0]) ?_ 4 _ rfl;(with_reducible repeat (first|refine Da ?_ _|refine Ga ?_|refine Ca ?_ _));refine Wb (cs:=#[.slice CE t104.length Yu,.int .i64 Ma,.int .i64 Oa,.int .i64 0,.int .i64 0]) ?_ 3 _ rfl;(with_reducible repeat (first|refine Da ?_ _|refine Ga ?_|refine Ca ?_ _));refine Wb (cs:=#[.slice CE t104.length Yu,.int .i64 Ma,.int .i64 0,.int .i64 0,.int .i64 0]) ?_ 2 _ rfl;(with_reducible repeat (first|refine Da ?_ _|refine Ga ?_|refine Ca ?_ _));refine Wb (cs:=#[.slice CE t104.length Yu,.int .i64 0,.int .i64 0,.int .i64 0,.int .i64 0]) ?_ 1 _ rfl;(with_reducible repeat (first|refine Da ?_ _|refine Ga ?_|refine Ca ?_ _));refine Wb (cs:=#[.slice none 0 0,.int .i64 0,.int .i64 0,.int .i64 0,.int .i64 0]) ?_ 0 _ rfl;(with_reducible repeat (first|refine Da ?_ _|refine Ga ?_|refine Ca ?_ _));refine jd ?_ Ke.out _;(with_reducible repeat (first|refine Da ?_ _|refine Ga ?_|refine Ca ?_ _));refine jd ?_ Ke.out _;(with_reducible repeat (first|refine Da ?_ _|refine Ga ?_|refine Ca ?_ _));refine jd ?_ Ke.out _;(with_reducible repeat (first|refine Da ?_ _|refine Ga ?_|refine Ca ?_ _));refine jd ?_ Ke.out _;(with_reducible repeat (first|refine Da ?_ _|refine Ga ?_|refine Ca ?_ _));refine jd ?_ Ke.out _;(with_reducible repeat (first|refine Da ?_ _|refine Ga ?_|refine Ca ?_ _));exact Ba.out) Try.underlying68 rfl (by kernel_rfl)) rfl ?_
 exact ⟨_,by first|rfl|(simp [La,Ka] <;> rfl)|(simp [*,La,Ka] <;> rfl),by (with_reducible repeat (first|apply Kd.Dc|apply Kd.Ic|apply Kd.Zc));exact Kd.Oe (Kd.qg (p:=⟨Fa,4,none⟩) (Kd.qg (p:=⟨Fa,3,none⟩) (Kd.qg (p:=⟨Fa,2,none⟩) (Kd.qg (p:=⟨Fa,1,none⟩) (Kd.qg (p:=⟨Fa,0,none⟩) (Kd.qg (p:=⟨fe,4,none⟩) (Kd.qg (p:=⟨fe,3,none⟩) (Kd.qg (p:=⟨fe,2,none⟩) (Kd.qg (p:=⟨fe,1,none⟩) (Kd.qg (p:=⟨fe,0,none⟩) (Kd.xo (Kd.xo Ds.out Bd.out (by decide)) Ba.out (by decide)) (fun _ hk=>hk.1.2) (.slice CE t104.length Yu)) (fun _ hk=>hk.1.2) (.int .i64 Ma)) (fun _ hk=>hk.1.2) (.int .i64 Oa)) (fun _ hk=>hk.1.2) (.int .i64 Pa)) (fun _ hk=>hk.1.2) (.int .i64 nc)) (fun _ hk=>hk.2) (.slice CE t104.length Yu)) (fun _ hk=>hk.2) (.int .i64 Ma)) (fun _ hk=>hk.2) (.int .i64 Oa)) (fun _ hk=>hk.2) (.int .i64 Pa)) (fun _ hk=>hk.2) (.int .i64 nc)) (fun _ hk=>trivial),by repeat (first|(with_reducible first|exact HB.out|apply qa|apply ia|apply ua|refine Aa ?_ Wa.out|refine Aa ?_ Sb.out|refine Aa ?_ Ai.out)|exact HB.out)⟩
def Mc.l0:Nat→List (Lk)→List (gh)→Int→Option ((List (gh)))
 | 0,_,_,_=>none
 | k + 1,x0,x3,x4=>if x4 < (x0.length:Int) then (if 0 ≤ x4 then ((pg.f k ((Ae x0 x4).f0) ((Ae x0 x4).f1) ((Ae x0 x4).f2) ((Ae x0 x4).f3) ((Ae x0 x4).f4)).bind fun ep=>(if x4 < (x3.length:Int) then (Mc.l0 k x0 (x3.set (x4:Int).toNat (⟨ep.1,ep.2.1,ep.2.2.1,ep.2.2.2.1,ep.2.2.2.2⟩:gh)) (wrap64 (x4 + 1))) else (none))) else (none)) else (some x3)
def Mc.f (k:Nat) (l0:List (Lk)):Option ((List (gh))):=if 0 ≤ (l0.length:Int) then (if ((l0.length:Int):Int).toNat ≤ 5026338869833 then (Mc.l0 k l0 (List.replicate ((l0.length:Int):Int).toNat CB) 0) else (none)) else (none)
theorem Mc.Sd:∀ k,(∀ y0 y1 y2,Lb (Mc.l0 k y0 y1 y2) (Mc.l0 (k + 1) y0 y1 y2))
 | 0=>fun _ _ _ r h=>by simp [Mc.l0] at h
 | k + 1=>by
  have Ff:=Mc.Sd k
  ·intro y0 y1 y2
   unfold Mc.l0
   repeat' first
   | (with_reducible exact Ff _ _ _)
   | (with_reducible exact pg.mono _ _ _ _ _ _)
   | (with_reducible exact Lb.refl _)
   | (with_reducible exact Lb.none _)
   | (with_reducible refine Lb.ite ?_ ?_)
   | (with_reducible refine Lb.bind ?_ (fun _=>?_))
   | exact Ff _ _ _
   | exact pg.mono _ _ _ _ _ _
   | exact Lb.none _
   | refine Lb.ite ?_ ?_
   | refine Lb.bind ?_ (fun _=>?_)
theorem Mc.mono:∀ a0 k,Lb (Mc.f k a0) (Mc.f (k + 1) a0):=by
 intro a0 k
 have Ff:=Mc.Sd k
 unfold Mc.f
 repeat' first
   | (with_reducible exact Ff _ _ _)
   | (with_reducible exact pg.mono _ _ _ _ _ _)
   | (with_reducible exact Lb.refl _)
   | (with_reducible exact Lb.none _)
   | (with_reducible refine Lb.ite ?_ ?_)
   | (with_reducible refine Lb.bind ?_ (fun _=>?_))
   | exact Ff _ _ _
   | exact pg.mono _ _ _ _ _ _
   | exact Lb.none _
   | refine Lb.ite ?_ ?_
   | refine Lb.bind ?_ (fun _=>?_)
set_option maxHeartbeats 8000000 in
set_option maxRecDepth 100000 in
theorem Mc.calls (k:Nat) (A0:Option Addr) (c0:Nat) (l0:List (Lk)) (r:List (gh)) (w:World) (hr0:Kd.C cy w A0 l0.length l0) (hc0:l0.length ≤ c0) (h:Mc.f k l0=some r) :
  Calls Try.prog 56 #[.slice A0 l0.length c0] w fun e w'=>∃ v0_:Value,e = .returned (v0_)∧Kd.S Wo 68 w' w.heap.size (fun _=>True) v0_ r∧Below w.heap.size w w':=by
 have QJ:=Try.underlying118
 have JI:=Try.underlying68
 have Gh:=ja.mk hr0
 have dw:=ja.mk hc0
 clear hr0 hc0
 have HB:=ja.mk (Below.refl w.heap.size w)
 have H:(if 0 ≤ (l0.length:Int) then (if ((l0.length:Int):Int).toNat ≤ 5026338869833 then (Mc.l0 k l0 (List.replicate ((l0.length:Int):Int).toNat CB) 0) else (none)) else (none))=some r:=h
 clear h
 by_cases c2:0 ≤ (l0.length:Int)
 ·rw [if_pos c2] at H
  have mz:=eq_true c2
  have iE:decide (0 ≤ (l0.length:Int))=true:=decide_eq_true c2
  clear c2
  by_cases c3:((l0.length:Int):Int).toNat ≤ 5026338869833
  ·rw [if_pos c3] at H
   have Zh:=eq_true c3
   have Sr:decide (((l0.length:Int):Int).toNat ≤ 5026338869833)=true:=decide_eq_true c3
   clear c3
   obtain ⟨bg,hy101⟩:∃ y_:List (gh),y_=(List.replicate ((l0.length:Int):Int).toNat CB):=⟨_,rfl⟩
   replace H:(Mc.l0 k l0 bg 0)=some r:=by first|(rw [hy101];with_reducible exact H)|(have Eh:=(Option.bind_some _ _).symm.trans H;rw [hy101];with_reducible exact Eh)|(have Eh:=(Option.bind_some _ _).symm.trans H;with_reducible exact Eh)|with_reducible exact H|(rw [hy101];exact H)|exact H
   have ek:=ja.mk hy101
   clear hy101
   have H':=ja.mk H
   clear H
   go_enter Try.func56,Try.ntmps56
   go_wp2_with (first|((with_reducible refine Kb (N:=7) rfl ?_);refine Kd.JU Wo _ 68 rfl (N:=7) rfl 28 _ _ rfl (l0.length:Int) rfl rfl Try.underlying28 (.agg #[(.slice none 0 0),(.int .i64 0),(.int .i64 0),(.int .i64 0),(.int .i64 0)]) 56 YS rfl (by decide) (by omega) CB (ok:=fun _=>True) (vp:=fun _=>True) (Xz _ _ _ CB (Kd.TH _ _ _ _ _)) (fun _ hk=>hk) trivial (of_decide_eq_true (by first|(with_reducible assumption)|assumption)) (Nat.le_trans (Nat.mul_le_mul_right _ (of_decide_eq_true (by first|(with_reducible assumption)|assumption):(l0.length:Int).toNat ≤ 5026338869833)) (by omega)) (Below.refl _ _) (Nat.le_refl _) ?_;intro IB w4 bC hb CD Jn;clear CD Jn;(first|rw [← ek.out] at bC|(simp only [Int.reduceToNat] at bC;rw [← ek.out] at bC));have Gb:=ja.mk (Kd.uB bC (Ra (by repeat (first|(with_reducible first|exact HB.out|apply qa|apply ia|apply ua)|exact HB.out))));have Vb:=ja.mk (Qa (by repeat (first|(with_reducible first|exact HB.out|apply qa|apply ia|apply ua)|exact HB.out)) hb);clear HB;have gp:=Gb;have HB:=Vb;clear Gb Vb;clear hb bC))
   go_loopg [4] k (fun kq v4 w'=>∃ (lf:List (gh)) (Jd:Int),v4 = .int .i64 Jd∧ja (Mc.l0 kq l0 lf Jd=some r)∧ja (kq ≤ k)∧ja (Kd.S Wo 68 w' w.heap.size (fun _=>True) IB lf)∧ja (Below w.heap.size w w'))
   case atStart=>exact ⟨(bg),(0),(by first|rfl|(simp;done)|(simp [*];done)),H',⟨Nat.le_refl _⟩,⟨by (with_reducible repeat (first|apply Kd.Mr|apply Kd.Lr|apply Kd.Ns));exact gp.out⟩,⟨by repeat (first|(with_reducible first|exact HB.out|apply qa|apply ia|apply ua)|exact HB.out)⟩⟩
   case round =>
    clear H'
    try clear c2
    try clear mz
    try clear iE
    try clear p2
    try clear c3
    try clear Zh
    try clear Sr
    try clear c5
    (try clear HA)
    (try clear Yg)
    (try clear di)
    (try clear HB)
    obtain ⟨lf,Jd,rfl,HA,Yg,di,HB⟩:=hrel
    cases gk with
    | zero=>exact absurd HA.out (by simp [Mc.l0])
    | succ k1 =>
     have H:=HA.out
     clear HA
     simp only [Mc.l0] at H
     by_cases c6:Jd < (l0.length:Int)
     ·rw [if_pos c6] at H
      have cm:decide (Jd < (l0.length:Int))=true:=decide_eq_true c6
      clear c6
      by_cases c7:0 ≤ Jd
      ·rw [if_pos c7] at H
       have bp:decide (0 ≤ Jd)=true:=decide_eq_true c7
       clear c7
       replace H:=Option.bind_eq_some_iff.mp H
       obtain ⟨⟨t105,t108,t109,t110,t111⟩,OL,H⟩:=H
       replace H:(if Jd < (lf.length:Int) then (Mc.l0 k1 l0 (lf.set (Jd:Int).toNat (⟨t105,t108,t109,t110,t111⟩:gh)) (wrap64 (Jd + 1))) else (none))=some r:=H
       have A8:=ja.mk OL
       clear OL
       by_cases c9:Jd < (lf.length:Int)
       ·rw [if_pos c9] at H
        have xy:decide (Jd < (lf.length:Int))=true:=decide_eq_true c9
        clear c9
        obtain ⟨y112,hy112⟩:∃ y_:List (gh),y_=(lf.set (Jd:Int).toNat (⟨t105,t108,t109,t110,t111⟩:gh)):=⟨_,rfl⟩
        replace H:(Mc.l0 k1 l0 y112 (wrap64 (Jd + 1)))=some r:=by first|(rw [hy112];with_reducible exact H)|(have Eh:=(Option.bind_some _ _).symm.trans H;rw [hy112];with_reducible exact Eh)|(have Eh:=(Option.bind_some _ _).symm.trans H;with_reducible exact Eh)|with_reducible exact H|(rw [hy112];exact H)|exact H
        have Oy:=ja.mk hy112
        clear hy112
        have H':=ja.mk H
        clear H
        have zh:0 ≤ (Jd:Int):=of_decide_eq_true (by first|(with_reducible assumption)|assumption)
        have xh:Jd < (l0.length:Int):=of_decide_eq_true (by first|(with_reducible assumption)|assumption)
        obtain ⟨Wj,Ty,Fy,um,Zd,Me,Ue,Te,Re,wj,yj⟩:=sB Gh.out Jd zh xh
        cases um
        replace Zd:=(HB.out.cell (World.block_lt_of_cell? w _ Zd)).trans Zd
        replace Me:=(HB.out.cell (World.block_lt_of_cell? w _ Me)).trans Me
        replace Ue:=(HB.out.cell (World.block_lt_of_cell? w _ Ue)).trans Ue
        replace Te:=(HB.out.cell (World.block_lt_of_cell? w _ Te)).trans Te
        replace Re:=(HB.out.cell (World.block_lt_of_cell? w _ Re)).trans Re
        have Iu:=ja.mk yj
        have Ku:=ja.mk wj
        clear yj wj
        replace zh:=eq_true zh
        replace xh:=eq_true xh
        go_wp2_with (first|((with_reducible refine mb (f:=88) rfl ?_);refine yd (some 20) rfl rfl Try.func88 (by kernel_rfl) rfl #[.agg #[.slice Ty ((Ae l0 Jd).f0).length Fy,.int .i64 ((Ae l0 Jd).f1),.int .i64 ((Ae l0 Jd).f2),.int .i64 ((Ae l0 Jd).f3),.int .i64 ((Ae l0 Jd).f4)]] rfl (by (try simp only [List.map_toArray,List.map_cons,List.map_nil]);first|done|rfl|(simp only [List.length_drop,List.length_take];rfl)) ?_;(with_reducible refine (pg.calls k1 _ _ ((Ae l0 Jd).f0) ((Ae l0 Jd).f1) ((Ae l0 Jd).f2) ((Ae l0 Jd).f3) ((Ae l0 Jd).f4) t105 t108 t109 t110 t111 _ ?side1 ?side2 A8.out).mono ?_);(case side1=>repeat (first|exact (Kd.Mb Iu.out HB.out)|(with_reducible refine Kd.Sc ?_ _)|(with_reducible refine Kd.Rc ?_ _)|(with_reducible refine Kd.Qd ?_)));(case side2=>exact Ku.out);rintro e sj ⟨gJ,rfl,Zm,hb⟩;refine ⟨_,rfl,?_⟩;have Gb:=ja.mk (Kd.vL (by (with_reducible repeat (first|apply Kd.Mr|apply Kd.Lr|apply Kd.Ns));exact di.out) (Kd.OU Zm) hb);have Vb:=ja.mk (Kd.zi Zm (Ra (by repeat (first|(with_reducible first|exact HB.out|apply qa|apply ia|apply ua)|exact HB.out))));have Ac:=ja.mk (Qa (by repeat (first|(with_reducible first|exact HB.out|apply qa|apply ia|apply ua)|exact HB.out)) hb);clear di;clear HB;have di:=Gb;have KL:=Vb;have HB:=Ac;clear Gb Vb Ac;(try clear hb);(try clear hb2);(try clear hk);(try clear hi);(try clear Zm);have rD:0 ≤ (Jd:Int):=of_decide_eq_true (by first|(with_reducible assumption)|assumption);have nD:(Jd:Int) < ((lf.length:Int):Int):=of_decide_eq_true (by first|(with_reducible assumption)|assumption);obtain ⟨ei,Yu,eE,ZK,jU,Sag,vv⟩:=Kd.uL di.out (by omega);(first|cases eE|(injection eE with Ei en_ ec_;(first|subst Ei|(injection Ei with Ei;subst Ei));subst ec_;clear en_));have wv:=ja.mk ZK;have pah:=ja.mk vv;clear ZK jU vv;obtain ⟨_,I3,jC,qC,Cj,Bj,_,_⟩:=Kd.pE di.out CB (Jd:Int) rD nD;obtain ⟨GS,rfl,Gag⟩:=Tu qC;have OJ:sj.cell? ⟨ei,(Jd:Int).toNat * 5,none⟩=some (GS):=Cj 0 _ rfl;have NJ:sj.cell? ⟨ei,(Jd:Int).toNat * 5 + 1,none⟩=some (.int .i64 ((Xa lf Jd).f1)):=Cj 1 _ rfl;have MJ:sj.cell? ⟨ei,(Jd:Int).toNat * 5 + 2,none⟩=some (.int .i64 ((Xa lf Jd).f2)):=Cj 2 _ rfl;have LJ:sj.cell? ⟨ei,(Jd:Int).toNat * 5 + 3,none⟩=some (.int .i64 ((Xa lf Jd).f3)):=Cj 3 _ rfl;have KJ:sj.cell? ⟨ei,(Jd:Int).toNat * 5 + 4,none⟩=some (.int .i64 ((Xa lf Jd).f4)):=Cj 4 _ rfl;have zK:sj.frozen? ⟨ei,(Jd:Int).toNat * 5,none⟩=false:=Bj 0;have yK:sj.frozen? ⟨ei,(Jd:Int).toNat * 5 + 1,none⟩=false:=Bj 1;have xK:sj.frozen? ⟨ei,(Jd:Int).toNat * 5 + 2,none⟩=false:=Bj 2;have wK:sj.frozen? ⟨ei,(Jd:Int).toNat * 5 + 3,none⟩=false:=Bj 3;have vK:sj.frozen? ⟨ei,(Jd:Int).toNat * 5 + 4,none⟩=false:=Bj 4;clear jC Cj Bj qC;replace rD:=eq_true rD;replace nD:=eq_true nD;have n_:=ja.mk (Kd.Ms (ok':=(fun k_=>some k_ ≠ (gJ:Value).ownBlock)) di.out (fun k_ hk=>hk.2));clear di;have di:=n_;clear n_;have CQ:=ja.mk (show Kd.S Wo 68 sj w.heap.size (fun k_=>((fun _=>True)) k_∧¬ ((fun k_=>some k_=(gJ:Value).ownBlock)) k_) (.slice (some ⟨ei,0,none⟩) lf.length Yu) lf from (by (with_reducible repeat (first|apply Kd.Mr|apply Kd.Lr|apply Kd.Ns));exact Kd.Ms di.out (fun k_ hk=>⟨trivial,fun e_=>hk e_⟩)));obtain ⟨Dah,G3,Bz,oC,jj,Aj,uT,O2⟩:=Kd.pE CQ.out CB (Jd:Int) (of_decide_eq_true (by first|(with_reducible assumption)|assumption)) (by have h_:(Jd:Int) < ((lf.length:Int):Int):=of_decide_eq_true (by first|(with_reducible assumption)|assumption);first|exact h_|(have e_:=(Kd.nj di.out).1;omega)|simpa using h_);obtain ⟨qae,rfl,Fag⟩:=Tu oC;have xE:=Kd.N4 O2 (of_decide_eq_true (by first|(with_reducible assumption)|assumption)) (by have h_:(Jd:Int) < ((lf.length:Int):Int):=of_decide_eq_true (by first|(with_reducible assumption)|assumption);first|exact h_|(have e_:=(Kd.nj di.out).1;omega)|simpa using h_) (seg:=[gJ,.int .i64 t108,.int .i64 t109,.int .i64 t110,.int .i64 t111]) (j:=0) (show 5 ≤ 5 from by decide) (x':=(⟨t105,t108,t109,t110,t111⟩:gh)) (Xz _ _ _ (⟨t105,t108,t109,t110,t111⟩:gh) (Kd.Oe (Kd.Fu rfl (Kd.Oe (ok':=fun k_=>((fun _=>True)) k_∧k_ ≠ ei) (Kd.LC (KL.out) (Kd.SH di.out) (by decide)) (fun k_ hk=>⟨trivial,fun e_=>(hk.2) (by rw [e_];rfl)⟩))) (fun _ h_=>Or.inr (h_)))) (fun _ hk=>hk) (fun k_ hk_=>((Kd.Oe (ok':=fun k_=>((fun _=>True)) k_∧k_ ≠ ei) (Kd.LC (KL.out) (Kd.SH di.out) (by decide)) (fun k_ hk=>⟨trivial,fun e_=>(hk.2) (by rw [e_];rfl)⟩))).1 k_ hk_.symm);have fA:=jj 0 _ rfl;(try simp only [show (Wo).sz=5 from rfl,Nat.mul_one,Nat.add_zero] at fA);have IA:=Aj 0;(try simp only [show (Wo).sz=5 from rfl,Nat.mul_one,Nat.add_zero] at IA);have eA:=jj 1 _ rfl;(try simp only [show (Wo).sz=5 from rfl,Nat.mul_one,Nat.add_zero] at eA);have GA:=Aj 1;(try simp only [show (Wo).sz=5 from rfl,Nat.mul_one,Nat.add_zero] at GA);have dA:=jj 2 _ rfl;(try simp only [show (Wo).sz=5 from rfl,Nat.mul_one,Nat.add_zero] at dA);have FA:=Aj 2;(try simp only [show (Wo).sz=5 from rfl,Nat.mul_one,Nat.add_zero] at FA);have cA:=jj 3 _ rfl;(try simp only [show (Wo).sz=5 from rfl,Nat.mul_one,Nat.add_zero] at cA);have EA:=Aj 3;(try simp only [show (Wo).sz=5 from rfl,Nat.mul_one,Nat.add_zero] at EA);have aA:=jj 4 _ rfl;(try simp only [show (Wo).sz=5 from rfl,Nat.mul_one,Nat.add_zero] at aA);have DA:=Aj 4;(try simp only [show (Wo).sz=5 from rfl,Nat.mul_one,Nat.add_zero] at DA);clear Bz jj Aj oC uT O2)|((with_reducible refine qf (t:=68) (p:=21) rfl ?_);refine Xe (t:=68) (p:=21) (v:=?vo_w13) (w1:=(((((sj.setCell ⟨ei,(Jd:Int).toNat * 5,none⟩ (gJ)).setCell ⟨ei,(Jd:Int).toNat * 5 + 1,none⟩ (.int .i64 t108)).setCell ⟨ei,(Jd:Int).toNat * 5 + 2,none⟩ (.int .i64 t109)).setCell ⟨ei,(Jd:Int).toNat * 5 + 3,none⟩ (.int .i64 t110)).setCell ⟨ei,(Jd:Int).toNat * 5 + 4,none⟩ (.int .i64 t111))) ?hg ?ho ?hn ?hr ?_;(case ho=>rfl);(case hg=>rfl);(case hn=>rfl);(case hr=>first|(go_simp;done)|(go_simp;rfl)|(have ham:=fun (a_:Addr) (W_:World) (m_:Mode)=>run_store Try.prog W_ a_ gJ m_ (by first|exact tJ (by assumption)|exact sJ (by assumption)|exact vJ (by assumption)|exact uJ (by assumption));first|(go_simp;done)|(go_simp;rfl)));intro FB hw;have hg:sj.grownBy FB (some ei):=(by rw [hw];exact xE.2);have Gn:Kd.S Wo 68 FB w.heap.size (fun _=>True) (.slice (some ⟨ei,0,none⟩) lf.length Yu) y112:=(by rw [hw,Oy.out];exact xE.1);clear xE;have Gb:=ja.mk (Gn);have Vb:=ja.mk ((by rw [hw];exact Aa (Aa (Aa (Aa (Aa (HB.out) wv.out) wv.out) wv.out) wv.out) wv.out:Below w.heap.size w FB));clear di;clear HB;clear KL;have di:=Gb;have HB:=Vb;clear Gb Vb;clear hg hw Gn))
        go_roundg k1
        case measure=>have:=Yg.out;omega
        case rel=>exact ⟨(y112),(wrap64 (Jd + 1)),(by first|rfl|(simp;done)|(simp [*];done)),H',⟨by have:=Yg.out;omega⟩,⟨by (with_reducible repeat (first|apply Kd.Mr|apply Kd.Lr|apply Kd.Ns));exact di.out⟩,⟨by repeat (first|(with_reducible first|exact HB.out|apply qa|apply ia|apply ua)|exact HB.out)⟩⟩
       ·rw [if_neg c9] at H
        exact absurd H (by simp)
      ·rw [if_neg c7] at H
       exact absurd H (by simp)
     ·rw [if_neg c6] at H
      have cm:decide (Jd < (l0.length:Int))=false:=decide_eq_false c6
      clear c6
      obtain rfl:=Option.some.inj H
      go_wp2
      go_ret
      exact ⟨_,by first|rfl|(simp [La,Ka] <;> rfl)|(simp [*,La,Ka] <;> rfl),by (with_reducible repeat (first|apply Kd.Mr|apply Kd.Lr|apply Kd.Ns));exact di.out,by repeat (first|(with_reducible first|exact HB.out|apply qa|apply ia|apply ua)|exact HB.out)⟩
  ·rw [if_neg c3] at H
   exact absurd H (by simp)
 ·rw [if_neg c2] at H
  exact absurd H (by simp)
end Go.Proofs.Ytmifdccaajngcaa.P
end
