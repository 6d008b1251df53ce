import Derived.Test.YtkigbdceceeenaaProg
import Derived.Below
import Derived.Deep.Draws
import Derived.Deep.AppendLies
import Derived.Maps.AppendAt
import Derived.OwnWalk
import Derived.Laws.BytesArg
import Derived.Laws.MakeOwn
import Derived.Laws.OwnMore
import Derived.Deep.OwnRows
import Derived.Tactics
import Derived.Lib.ConvBytes
import Derived.Laws.Slices
import Derived.WalkKit
import Derived.KernelRfl
import Derived.RowKit3
import Derived.Deep.LoopGhost
import Derived.Deep.QuietTactic
import Derived.BigQuiet
import Derived.WideLaws
import Derived.Deep.DeepCutAuto
import Derived.Deep.CutBlock
import Derived.Deep.RegionHeld3
import Derived.Laws.Rows
import Derived.Lib.AppendStr
import Derived.ArgAppend
import Derived.Laws.IdiomCopy
import Derived.OrdersHeld
import Derived.Laws.BitsLemmas
import Derived.RowKit
import Derived.Test.YtkigbdceceeenaaQLiveInW1
import Derived.Test.YtkigbdceceeenaaQLiveInW2
import Derived.Deep.Slices
import Derived.ChangeArms
import Derived.OpenShut
import Derived.WideShapes
set_option maxHeartbeats 8000000
set_option maxRecDepth 100000
section
namespace Go.Proofs.Ytkigbdceceeenaa.P
open Go.RowKit Go.Proofs.Sa.Wb Go.Proofs.Sa.je Go.Proofs.Sa.Qf
set_option linter.unusedVariables false
set_option linter.unusedSimpArgs false
attribute [local go_sem] ei ai Tj Sj Yg Xg di Zh
def B_:Option Int→Value
 | none=>.nilIface
 | some c=>.iface 0 (.int .i64 c)
theorem Na:B_ none = .nilIface:=rfl
theorem Ma (c:Int):B_ (some c) = .iface 0 (.int .i64 c):=rfl
theorem info3:(Try.prog.info? 3).map (fun i=>(i.zero,i.size,i.bytes))=some (some (.int .i64 0),1,8):=by kernel_rfl
theorem Yy:(Try.prog.info? 4).map (fun i=>(i.zero,i.size,i.bytes))=some (some (.bool false),1,1):=by kernel_rfl
theorem EY:(Try.prog.info? 59).map (fun i=>(i.zero,i.size,i.bytes))=some (some (.agg #[(.slice none 0 0),(.int .i64 0),(.int .i64 0),(.int .i64 0),(.int .i64 0)]),5,56):=by kernel_rfl
theorem QI:(Try.prog.info? 60).map (fun i=>(i.zero,i.size,i.bytes))=some (some (.slice none 0 0),1,24):=by kernel_rfl
theorem DY:(Try.prog.info? 65).map (fun i=>(i.zero,i.size,i.bytes))=some (some (.agg #[(.int .i64 0),(.int .i64 0),(.int .i64 0),(.int .i64 0),(.int .i64 0),(.int .i64 0),(.string ⟨#[]⟩)]),7,64):=by kernel_rfl
structure S7 where
 f0:Int
 f1:Int
 f2:Bool
 f3:Int
def z7:S7:=⟨(0:Int),(0:Int),false,(0:Int)⟩
structure S8 where
 f0:Int
 f1:Int
 f2:Bool
 f3:Int
def z8:S8:=⟨(0:Int),(0:Int),false,(0:Int)⟩
structure Um where
 f0:Int
 f1:Int
 f2:Int
 f3:Int
 f4:Int
 f5:Int
 f6:ByteArray
def Q3:Um:=⟨(0:Int),(0:Int),(0:Int),(0:Int),(0:Int),(0:Int),(⟨#[]⟩:ByteArray)⟩
def nB:Kd Um:=Kd.KS (Kd.pair (Kd.int .i64) (Kd.pair (Kd.int .i64) (Kd.pair (Kd.int .i64) (Kd.pair (Kd.int .i64) (Kd.pair (Kd.int .i64) (Kd.pair (Kd.int .i64) Kd.string)))))) (fun x:Um=>(x.f0,x.f1,x.f2,x.f3,x.f4,x.f5,x.f6))
theorem FN {w:World} {x:Um} {cs:List Value} (h:nB.K w x cs):cs=[.int .i64 x.f0,.int .i64 x.f1,.int .i64 x.f2,.int .i64 x.f3,.int .i64 x.f4,.int .i64 x.f5,.string x.f6]:=by
 obtain ⟨_,_,rfl,rfl,⟨_,_,rfl,rfl,⟨_,_,rfl,rfl,⟨_,_,rfl,rfl,⟨_,_,rfl,rfl,⟨_,_,rfl,rfl,rfl⟩⟩⟩⟩⟩⟩:=h;exact rfl
def Fc (xs:List Um) (i:Int):Um:=xs.getD i.toNat Q3
theorem jG {w:World} {A:Option Addr} {n:Nat} {xs:List Um} (h:Kd.C nB w A n xs) (i:Int) (h0:0 ≤ i) (h1:i < n):∃ ad , A=some ad∧w.cell? (ad.add (i.toNat * 7))=some (.int .i64 (Fc xs i).f0)∧w.cell? ⟨(ad.add (i.toNat * 7)).block,(ad.add (i.toNat * 7)).off + 1,none⟩=some (.int .i64 (Fc xs i).f1)∧w.cell? ⟨(ad.add (i.toNat * 7)).block,(ad.add (i.toNat * 7)).off + 2,none⟩=some (.int .i64 (Fc xs i).f2)∧w.cell? ⟨(ad.add (i.toNat * 7)).block,(ad.add (i.toNat * 7)).off + 3,none⟩=some (.int .i64 (Fc xs i).f3)∧w.cell? ⟨(ad.add (i.toNat * 7)).block,(ad.add (i.toNat * 7)).off + 4,none⟩=some (.int .i64 (Fc xs i).f4)∧w.cell? ⟨(ad.add (i.toNat * 7)).block,(ad.add (i.toNat * 7)).off + 5,none⟩=some (.int .i64 (Fc xs i).f5)∧w.cell? ⟨(ad.add (i.toNat * 7)).block,(ad.add (i.toNat * 7)).off + 6,none⟩=some (.string (Fc xs i).f6):=by
 obtain ⟨ad,c,e,_,hK,hc0⟩:=Kd.cI h Q3 i h0 h1;have hc:∀ j u,c[j]? = some u→w.cell? (ad.add (i.toNat * 7 + j))=some u:=hc0;obtain rfl:=FN hK;exact ⟨ad,e,hc 0 _ rfl,by rw [← uf _ _ 1 (by omega)];exact hc 1 _ rfl,by rw [← uf _ _ 2 (by omega)];exact hc 2 _ rfl,by rw [← uf _ _ 3 (by omega)];exact hc 3 _ rfl,by rw [← uf _ _ 4 (by omega)];exact hc 4 _ rfl,by rw [← uf _ _ 5 (by omega)];exact hc 5 _ rfl,by rw [← uf _ _ 6 (by omega)];exact hc 6 _ rfl⟩
structure Wu where
 f0:(List Um)
 f1:Int
 f2:Int
 f3:Int
 f4:Int
def z86:Wu:=⟨([]:List Um),(0:Int),(0:Int),(0:Int),(0:Int)⟩
def kP:Kd Wu:=Kd.KS (Kd.pair (Kd.slice 124 nB) (Kd.pair (Kd.int .i64) (Kd.pair (Kd.int .i64) (Kd.pair (Kd.int .i64) (Kd.int .i64))))) (fun x:Wu=>(x.f0,x.f1,x.f2,x.f3,x.f4))
theorem jP {w:World} {x:Wu} {cs:List Value} (h:kP.K w x cs):∃ A0 c0,cs=[.slice A0 x.f0.length c0,.int .i64 x.f1,.int .i64 x.f2,.int .i64 x.f3,.int .i64 x.f4]∧x.f0.length ≤ c0∧nB.C w A0 x.f0.length x.f0:=by
 obtain ⟨_,_,rfl,⟨A0,c0,rfl,l0,g0⟩,⟨_,_,rfl,rfl,⟨_,_,rfl,rfl,⟨_,_,rfl,rfl,rfl⟩⟩⟩⟩:=h;exact ⟨A0,c0,rfl,l0,g0⟩
def Vd (xs:List Wu) (i:Int):Wu:=xs.getD i.toNat z86
theorem EJ {w:World} {A:Option Addr} {n:Nat} {xs:List Wu} (h:Kd.C kP w A n xs) (i:Int) (h0:0 ≤ i) (h1:i < n):∃ ad A0 c0,A=some ad∧w.cell? (ad.add (i.toNat * 5))=some (.slice A0 (Vd xs i).f0.length c0)∧w.cell? ⟨(ad.add (i.toNat * 5)).block,(ad.add (i.toNat * 5)).off + 1,none⟩=some (.int .i64 (Vd xs i).f1)∧w.cell? ⟨(ad.add (i.toNat * 5)).block,(ad.add (i.toNat * 5)).off + 2,none⟩=some (.int .i64 (Vd xs i).f2)∧w.cell? ⟨(ad.add (i.toNat * 5)).block,(ad.add (i.toNat * 5)).off + 3,none⟩=some (.int .i64 (Vd xs i).f3)∧w.cell? ⟨(ad.add (i.toNat * 5)).block,(ad.add (i.toNat * 5)).off + 4,none⟩=some (.int .i64 (Vd xs i).f4)∧(Vd xs i).f0.length ≤ c0∧nB.C w A0 (Vd xs i).f0.length (Vd xs i).f0:=by
 obtain ⟨ad,c,e,_,hK,hc0⟩:=Kd.cI h z86 i h0 h1;have hc:∀ j u,c[j]? = some u→w.cell? (ad.add (i.toNat * 5 + j))=some u:=hc0;obtain ⟨A0,c0,rfl,l0,g0⟩:=jP hK;exact ⟨ad,A0,c0,e,hc 0 _ rfl,by rw [← uf _ _ 1 (by omega)];exact hc 1 _ rfl,by rw [← uf _ _ 2 (by omega)];exact hc 2 _ rfl,by rw [← uf _ _ 3 (by omega)];exact hc 3 _ rfl,by rw [← uf _ _ 4 (by omega)];exact hc 4 _ rfl,l0,g0⟩
structure K3 where
 f0:(List Int)
 f1:Int
 f2:Int
 f3:Int
 f4:(List Wu)
def k25:Kd K3:=Kd.KS (Kd.pair (Kd.slice 3 (Kd.int .i64)) (Kd.pair (Kd.int .i64) (Kd.pair (Kd.int .i64) (Kd.pair (Kd.int .i64) (Kd.slice 86 kP))))) (fun x:K3=>(x.f0,x.f1,x.f2,x.f3,x.f4))
theorem nP {w:World} {x:K3} {cs:List Value} (h:k25.K w x cs):∃ A0 c0 A4 c4,cs=[.slice A0 x.f0.length c0,.int .i64 x.f1,.int .i64 x.f2,.int .i64 x.f3,.slice A4 x.f4.length c4]∧x.f0.length ≤ c0∧(Kd.int .i64).C w A0 x.f0.length x.f0∧x.f4.length ≤ c4∧kP.C w A4 x.f4.length x.f4:=by
 obtain ⟨_,_,rfl,⟨A0,c0,rfl,l0,g0⟩,⟨_,_,rfl,rfl,⟨_,_,rfl,rfl,⟨_,_,rfl,rfl,⟨A4,c4,rfl,l4,g4⟩⟩⟩⟩⟩:=h;exact ⟨A0,c0,A4,c4,rfl,l0,g0,l4,g4⟩
structure ye where
 f0:Int
 f1:Int
 f2:Int
 f3:Int
 f4:Int
 f5:Int
 f6:ByteArray
def Xr:ye:=⟨(0:Int),(0:Int),(0:Int),(0:Int),(0:Int),(0:Int),(⟨#[]⟩:ByteArray)⟩
def Gi:Kd ye:=Kd.KS (Kd.pair (Kd.int .i64) (Kd.pair (Kd.int .i64) (Kd.pair (Kd.int .i64) (Kd.pair (Kd.int .i64) (Kd.pair (Kd.int .i64) (Kd.pair (Kd.int .i64) Kd.string)))))) (fun x:ye=>(x.f0,x.f1,x.f2,x.f3,x.f4,x.f5,x.f6))
theorem lP {w:World} {x:ye} {cs:List Value} (h:Gi.K w x cs):cs=[.int .i64 x.f0,.int .i64 x.f1,.int .i64 x.f2,.int .i64 x.f3,.int .i64 x.f4,.int .i64 x.f5,.string x.f6]:=by
 obtain ⟨_,_,rfl,rfl,⟨_,_,rfl,rfl,⟨_,_,rfl,rfl,⟨_,_,rfl,rfl,⟨_,_,rfl,rfl,⟨_,_,rfl,rfl,rfl⟩⟩⟩⟩⟩⟩:=h;exact rfl
theorem mg {w:World} {base:Nat} {ok:Nat→Prop} {x:ye} {cs:List Value} (h:Gi.M w base ok x cs):cs=[.int .i64 x.f0,.int .i64 x.f1,.int .i64 x.f2,.int .i64 x.f3,.int .i64 x.f4,.int .i64 x.f5,.string x.f6]:=by
 obtain ⟨_,_,rfl,rfl,⟨_,_,rfl,rfl,⟨_,_,rfl,rfl,⟨_,_,rfl,rfl,⟨_,_,rfl,rfl,⟨_,_,rfl,rfl,rfl⟩⟩⟩⟩⟩⟩:=h;exact rfl
theorem qn (w:World) (base:Nat) (ok:Nat→Prop) (x:ye)  : Gi.M w base ok x [.int .i64 x.f0,.int .i64 x.f1,.int .i64 x.f2,.int .i64 x.f3,.int .i64 x.f4,.int .i64 x.f5,.string x.f6]:=⟨[.int .i64 x.f0],[.int .i64 x.f1,.int .i64 x.f2,.int .i64 x.f3,.int .i64 x.f4,.int .i64 x.f5,.string x.f6],rfl,rfl,⟨[.int .i64 x.f1],[.int .i64 x.f2,.int .i64 x.f3,.int .i64 x.f4,.int .i64 x.f5,.string x.f6],rfl,rfl,⟨[.int .i64 x.f2],[.int .i64 x.f3,.int .i64 x.f4,.int .i64 x.f5,.string x.f6],rfl,rfl,⟨[.int .i64 x.f3],[.int .i64 x.f4,.int .i64 x.f5,.string x.f6],rfl,rfl,⟨[.int .i64 x.f4],[.int .i64 x.f5,.string x.f6],rfl,rfl,⟨[.int .i64 x.f5],[.string x.f6],rfl,rfl,rfl⟩⟩⟩⟩⟩⟩
def Ca (xs:List ye) (i:Int):ye:=xs.getD i.toNat Xr
theorem Hp {w:World} {A:Option Addr} {n:Nat} {xs:List ye} (h:Kd.C Gi w A n xs) (i:Int) (h0:0 ≤ i) (h1:i < n):∃ ad , A=some ad∧w.cell? (ad.add (i.toNat * 7))=some (.int .i64 (Ca xs i).f0)∧w.cell? ⟨(ad.add (i.toNat * 7)).block,(ad.add (i.toNat * 7)).off + 1,none⟩=some (.int .i64 (Ca xs i).f1)∧w.cell? ⟨(ad.add (i.toNat * 7)).block,(ad.add (i.toNat * 7)).off + 2,none⟩=some (.int .i64 (Ca xs i).f2)∧w.cell? ⟨(ad.add (i.toNat * 7)).block,(ad.add (i.toNat * 7)).off + 3,none⟩=some (.int .i64 (Ca xs i).f3)∧w.cell? ⟨(ad.add (i.toNat * 7)).block,(ad.add (i.toNat * 7)).off + 4,none⟩=some (.int .i64 (Ca xs i).f4)∧w.cell? ⟨(ad.add (i.toNat * 7)).block,(ad.add (i.toNat * 7)).off + 5,none⟩=some (.int .i64 (Ca xs i).f5)∧w.cell? ⟨(ad.add (i.toNat * 7)).block,(ad.add (i.toNat * 7)).off + 6,none⟩=some (.string (Ca xs i).f6):=by
 obtain ⟨ad,c,e,_,hK,hc0⟩:=Kd.cI h Xr i h0 h1;have hc:∀ j u,c[j]? = some u→w.cell? (ad.add (i.toNat * 7 + j))=some u:=hc0;obtain rfl:=lP hK;exact ⟨ad,e,hc 0 _ rfl,by rw [← uf _ _ 1 (by omega)];exact hc 1 _ rfl,by rw [← uf _ _ 2 (by omega)];exact hc 2 _ rfl,by rw [← uf _ _ 3 (by omega)];exact hc 3 _ rfl,by rw [← uf _ _ 4 (by omega)];exact hc 4 _ rfl,by rw [← uf _ _ 5 (by omega)];exact hc 5 _ rfl,by rw [← uf _ _ 6 (by omega)];exact hc 6 _ rfl⟩
structure We where
 f0:(List ye)
 f1:Int
 f2:Int
 f3:Int
 f4:Int
def wG:We:=⟨([]:List ye),(0:Int),(0:Int),(0:Int),(0:Int)⟩
def Kp:Kd We:=Kd.KS (Kd.pair (Kd.slice 65 Gi) (Kd.pair (Kd.int .i64) (Kd.pair (Kd.int .i64) (Kd.pair (Kd.int .i64) (Kd.int .i64))))) (fun x:We=>(x.f0,x.f1,x.f2,x.f3,x.f4))
theorem mP {w:World} {x:We} {cs:List Value} (h:Kp.K w x cs):∃ A0 c0,cs=[.slice A0 x.f0.length c0,.int .i64 x.f1,.int .i64 x.f2,.int .i64 x.f3,.int .i64 x.f4]∧x.f0.length ≤ c0∧Gi.C w A0 x.f0.length x.f0:=by
 obtain ⟨_,_,rfl,⟨A0,c0,rfl,l0,g0⟩,⟨_,_,rfl,rfl,⟨_,_,rfl,rfl,⟨_,_,rfl,rfl,rfl⟩⟩⟩⟩:=h;exact ⟨A0,c0,rfl,l0,g0⟩
theorem ey {w:World} {base:Nat} {ok:Nat→Prop} {x:We} {cs:List Value} (h:Kp.M w base ok x cs):∃ v0,cs=[v0,.int .i64 x.f1,.int .i64 x.f2,.int .i64 x.f3,.int .i64 x.f4]∧Gi.R 65 w base ok v0 x.f0:=by
 obtain ⟨_,_,rfl,⟨v0,rfl,g0⟩,⟨_,_,rfl,rfl,⟨_,_,rfl,rfl,⟨_,_,rfl,rfl,rfl⟩⟩⟩⟩:=h;exact ⟨v0,rfl,g0⟩
theorem wD (w:World) (base:Nat) (ok:Nat→Prop) (x:We) {v0:Value} (g0:Gi.R 65 w base ok v0 x.f0):Kp.M w base ok x [v0,.int .i64 x.f1,.int .i64 x.f2,.int .i64 x.f3,.int .i64 x.f4]:=⟨[v0],[.int .i64 x.f1,.int .i64 x.f2,.int .i64 x.f3,.int .i64 x.f4],rfl,⟨v0,rfl,g0⟩,⟨[.int .i64 x.f1],[.int .i64 x.f2,.int .i64 x.f3,.int .i64 x.f4],rfl,rfl,⟨[.int .i64 x.f2],[.int .i64 x.f3,.int .i64 x.f4],rfl,rfl,⟨[.int .i64 x.f3],[.int .i64 x.f4],rfl,rfl,rfl⟩⟩⟩⟩
def Oa (xs:List We) (i:Int):We:=xs.getD i.toNat wG
theorem Bi {w:World} {A:Option Addr} {n:Nat} {xs:List We} (h:Kd.C Kp w A n xs) (i:Int) (h0:0 ≤ i) (h1:i < n):∃ ad A0 c0,A=some ad∧w.cell? (ad.add (i.toNat * 5))=some (.slice A0 (Oa xs i).f0.length c0)∧w.cell? ⟨(ad.add (i.toNat * 5)).block,(ad.add (i.toNat * 5)).off + 1,none⟩=some (.int .i64 (Oa xs i).f1)∧w.cell? ⟨(ad.add (i.toNat * 5)).block,(ad.add (i.toNat * 5)).off + 2,none⟩=some (.int .i64 (Oa xs i).f2)∧w.cell? ⟨(ad.add (i.toNat * 5)).block,(ad.add (i.toNat * 5)).off + 3,none⟩=some (.int .i64 (Oa xs i).f3)∧w.cell? ⟨(ad.add (i.toNat * 5)).block,(ad.add (i.toNat * 5)).off + 4,none⟩=some (.int .i64 (Oa xs i).f4)∧(Oa xs i).f0.length ≤ c0∧Gi.C w A0 (Oa xs i).f0.length (Oa xs i).f0:=by
 obtain ⟨ad,c,e,_,hK,hc0⟩:=Kd.cI h wG i h0 h1;have hc:∀ j u,c[j]? = some u→w.cell? (ad.add (i.toNat * 5 + j))=some u:=hc0;obtain ⟨A0,c0,rfl,l0,g0⟩:=mP hK;exact ⟨ad,A0,c0,e,hc 0 _ rfl,by rw [← uf _ _ 1 (by omega)];exact hc 1 _ rfl,by rw [← uf _ _ 2 (by omega)];exact hc 2 _ rfl,by rw [← uf _ _ 3 (by omega)];exact hc 3 _ rfl,by rw [← uf _ _ 4 (by omega)];exact hc 4 _ rfl,l0,g0⟩
def Rd (xs:List (List Bool)) (i:Int):(List Bool):=xs.getD i.toNat ([]:List Bool)
theorem Vu {w:World} {A:Option Addr} {n:Nat} {xs:List (List Bool)} (h:Kd.C (Kd.slice 4 Kd.bool) w A n xs) (i:Int) (h0:0 ≤ i) (h1:i < n):∃ ad A0 c0,A=some ad∧w.cell? (ad.add i.toNat)=some (.slice A0 (Rd xs i).length c0)∧(Rd xs i).length ≤ c0∧Kd.bool.C w A0 (Rd xs i).length (Rd xs i):=by
 obtain ⟨ad,c,e,_,hK,hc0⟩:=Kd.cI h ([]:List Bool) i h0 h1;have hc:∀ j u,c[j]? = some u→w.cell? (ad.add (i.toNat * 1 + j))=some u:=hc0;obtain ⟨A0,c0,rfl,l0,g0⟩:=hK;exact ⟨ad,A0,c0,e,by have hq:=hc 0 _ rfl;rwa [Nat.mul_one,Nat.add_zero] at hq,l0,g0⟩
structure S78 where
 f0:Int
 f1:Int
 f2:Int
 f3:Int
 f4:Int
def z78:S78:=⟨(0:Int),(0:Int),(0:Int),(0:Int),(0:Int)⟩
structure mO where
 f0:Int
 f1:Int
 f2:Int
 f3:ByteArray
 f4:(List mO)
def V2 (d:Kd mO):Kd mO:=Kd.KS (Kd.pair (Kd.int .i64) (Kd.pair (Kd.int .i64) (Kd.pair (Kd.int .i64) (Kd.pair Kd.string (Kd.slice 134 d))))) (fun x:mO=>(x.f0,x.f1,x.f2,x.f3,x.f4))
theorem oY:Kd.Sub V2 [134]:=Kd.WJ _ (Kd.Ck (Kd.sub_const _ (by decide)) (Kd.Ck (Kd.sub_const _ (by decide)) (Kd.Ck (Kd.sub_const _ (by decide)) (Kd.Ck (Kd.sub_const _ (by decide)) (Kd.Xx 134 (by decide) Kd.vI)))))
theorem Z3:∀ n,(Kd.upto V2 5 [134] n).sz=5:=Kd.UJ (fun _=>rfl)
def Taj:Kd mO:=Kd.fix V2 5 [134] Z3 (Kd.sI oY)
structure Oy where
 f0:Int
 f1:Int
 f2:Int
 f3:(List mO)
 f4:(List Oy)
 f5:(List Oy)
def X2 (d:Kd Oy):Kd Oy:=Kd.KS (Kd.pair (Kd.int .i64) (Kd.pair (Kd.int .i64) (Kd.pair (Kd.int .i64) (Kd.pair (Kd.slice 134 Taj) (Kd.pair (Kd.slice 130 d) (Kd.slice 130 d)))))) (fun x:Oy=>(x.f0,x.f1,x.f2,x.f3,x.f4,x.f5))
theorem pY:Kd.Sub X2 [130,134]:=Kd.WJ _ (Kd.Ck (Kd.sub_const _ (by decide)) (Kd.Ck (Kd.sub_const _ (by decide)) (Kd.Ck (Kd.sub_const _ (by decide)) (Kd.Ck (Kd.sub_const _ (by decide)) (Kd.Ck (Kd.Xx 130 (by decide) Kd.vI) (Kd.Xx 130 (by decide) Kd.vI))))))
theorem e4:∀ n,(Kd.upto X2 6 [130,134] n).sz=6:=Kd.UJ (fun _=>rfl)
def Uaj:Kd Oy:=Kd.fix X2 6 [130,134] e4 (Kd.sI pY)
theorem cP {α:Type} {d:Kd α} {e:Nat} {w:World} {base:Nat} {ok:Nat→Prop} {v:Value} {xs:List α} (h:ja (d.R e w base ok v xs)):v.oneCell' = true:=by
 obtain ⟨A,c,rfl⟩:=Kd.Ud h.out
 rfl
theorem bP {α:Type} {d:Kd α} {e:Nat} {w:World} {base:Nat} {ok:Nat→Prop} {v:Value} {xs:List α} (h:ja (d.S e w base ok v xs)):v.oneCell' = true:=by
 obtain ⟨A,c,rfl⟩:=Kd.Ud (Kd.oI h.out)
 rfl
theorem eP {α:Type} {d:Kd α} {e:Nat} {w:World} {base:Nat} {ok:Nat→Prop} {v:Value} {xs:List α} (h:ja (Kd.N d e w base ok v xs)):v.oneCell' = true:=by
 obtain ⟨A,c,rfl⟩:=Kd.BV h.out
 rfl
theorem dP {α:Type} {d:Kd α} {e:Nat} {w:World} {base:Nat} {ok:Nat→Prop} {v:Value} {xs:List α} (h:ja (d.Q e w base ok v xs)):v.oneCell' = true:=by
 obtain ⟨A,c,rfl,_⟩:=Kd.AV h.out
 rfl
def Vm (P:Program) (t:TypeId) {α:Type} (d:Kd α) (fit:α→Prop):Prop :=
 ∀ {H:Type} {enc:TypeId × Value→H} {w:World} {base:Nat} {spare:Nat→Bool} {held:Bool} {fuel:Nat} {cs:List Value} {x:DataW H × List MemPlace},
  DataW.trod enc P w base spare held fuel t cs=some x→∃ a:α,d.K w a cs∧fit a
theorem zN {P:Program} {t:TypeId} {k:IntKind} (ht:P.underlying t=some (.int k)):Vm P t (Kd.int k) (fun n=>(Lit.int k n).wf=true):=by
 intro H enc w base spare held fuel cs x h;obtain ⟨n,rfl,_,hw⟩:=DataW.trod_int ht h;exact ⟨n,rfl,hw⟩
def Rq (n:Int):Prop:=-9223372036854775808 ≤ n∧n ≤ 9223372036854775807
theorem wf_i64 {n:Int} (h:(Lit.int .i64 n).wf=true):Rq n:=by
 simp [Lit.wf,IntKind.min,IntKind.max,IntKind.signed,IntKind.bits] at h;unfold Rq;omega
theorem Ag {P:Program} {t:TypeId} (ht:P.underlying t=some (.int .i64)):Vm P t (Kd.int .i64) Rq:=by
 intro H enc w base spare held fuel cs x h;obtain ⟨n,h1,h2⟩:=zN ht h;exact ⟨n,h1,wf_i64 h2⟩
theorem uD {P:Program} {t:TypeId} (ht:P.underlying t=some .string):Vm P t Kd.string (fun s=>s.size ≤ 9223372036854775807):=by
 intro H enc w base spare held fuel cs x h;obtain ⟨s,rfl,_,hw⟩:=DataW.trod_string ht h;exact ⟨s,rfl,by simpa [maxLen] using hw⟩
theorem az {α:Type} {p:Nat→α→Prop}:∀ n,(∀ i,i < n→∃ a,p i a)→∃ xs:List α,xs.length=n∧∀ (i:Nat) (a:α),xs[i]? = some a→p i a
 | 0,_=>⟨[],rfl,fun i a h=>by simp at h⟩
 | n + 1,h=>by
  obtain ⟨xs,hl,hx⟩:=az n (fun i hi=>h i (by omega));obtain ⟨a,ha⟩:=h n (by omega);refine ⟨xs ++ [a],by simp [hl],fun i b hb=>?_⟩
  rcases Nat.lt_or_ge i xs.length with hi|hi
  ·rw [List.getElem?_append_left hi] at hb;exact hx i b hb
  ·have:i=n:=by
    have:=(List.getElem?_eq_some_iff.1 hb).1;simp [hl] at this;omega
   subst this;rw [List.getElem?_append_right hi,hl] at hb;simp at hb;exact hb ▸ ha
theorem Dr {P:Program} {t e e':TypeId} {α:Type} {d:Kd α} {fit:α→Prop} (ht:P.underlying t=some (.slice e)) (hs:P.cellsOf e=d.sz) (h:Vm P e d fit):Vm P t (Kd.slice e' d) (fun l=>l.length ≤ 9223372036854775807∧∀ a ∈ l,fit a):=by
 intro H enc w base spare held fuel cs x hx
 rcases Go.Deep.open_slice ht hx with ⟨rfl,_⟩|⟨a,len,cap,m,n,D,Pl,rfl,hb,hl,hm,hmm,_,hel⟩
 ·exact ⟨[],⟨none,0,rfl,Nat.le_refl _,rfl,by simp,fun hp=>absurd hp (by simp)⟩,by simp,by simp⟩
 ·have hle:len ≤ m:=by rw [hmm];split <;> omega
  have hmx:len ≤ 9223372036854775807:=by simp only [maxLen] at hm;omega
  obtain ⟨xs,hxl,hxs⟩:=az (α:=α) (p:=fun i y=>∃ c,c.length=d.sz∧d.K w y c∧(∀ j u,c[j]? = some u→w.cell? (a.add (i * d.sz + j))=some u)∧fit y) len (fun i hi=>by
   obtain ⟨cs',h1,h2⟩:=hel i (by omega);obtain ⟨y,hy,hf⟩:=h h2;obtain ⟨_,jC,Gy⟩:=World.cells?_some h1;refine ⟨y,cs',by rw [jC,hs],hy,fun j u hu=>?_,hf⟩;have hj:j < P.cellsOf e:=by rw [← jC];exact (List.getElem?_eq_some_iff.1 hu).1
   rw [← hs,← Go.Deep.add_add,Gy j hj]
   exact hu)
  refine ⟨xs,⟨some a,cap,by rw [hxl],by omega,rfl,by omega,fun _=>⟨a,rfl,fun j p hj=>?_⟩⟩,by omega,fun y hy=>?_⟩
  ·obtain ⟨c,h1,h2,h3,_⟩:=hxs j p hj;exact ⟨c,h1,h2,h3⟩
  ·obtain ⟨i,hi,rfl⟩:=List.getElem_of_mem hy;obtain ⟨c,_,_,_,h4⟩:=hxs i _ (List.getElem?_eq_getElem hi);exact h4
def nG (P:Program) (fs:List Field) (off:Nat) {α:Type} (d:Kd α) (fit:α→Prop):Prop :=
 ∀ {H:Type} {enc:TypeId × Value→H} {w:World} {base:Nat} {spare:Nat→Bool} {held:Bool} {n:Nat} {cs:List Value},
  (∀ f ∈ fs,∃ y,DataW.trod enc P w base spare held n f.type ((cs.drop f.offset).take (P.cellsOf f.type))=some y)→cs.length=off + d.sz→∃ a:α,d.K w a (cs.drop off)∧fit a
theorem Du {P:Program} {f:Field} {off:Nat} {α:Type} {d:Kd α} {fit:α→Prop} (ho:f.offset=off) (hs:P.cellsOf f.type=d.sz) (h:Vm P f.type d fit):nG P [f] off d fit:=by
 intro H enc w base spare held n cs hf hl;obtain ⟨y,hy⟩:=hf f (by simp);rw [ho,hs,List.take_of_length_le (by rw [List.length_drop];omega)] at hy;exact h hy
theorem Hf {P:Program} {f:Field} {fs:List Field} {off off2:Nat} {α β:Type} {d:Kd α} {d2:Kd β} {fit:α→Prop} {A_:β→Prop} (ho:f.offset=off) (hs:P.cellsOf f.type=d.sz) (ho2:off2=off + d.sz) (h:Vm P f.type d fit) (h2:nG P fs off2 d2 A_):nG P (f :: fs) off (Kd.pair d d2) (fun p=>fit p.1∧A_ p.2):=by
 intro H enc w base spare held n cs hf hl;have hl':cs.length=off + (d.sz + d2.sz):=hl;obtain ⟨y,hy⟩:=hf f (by simp);rw [ho,hs] at hy;obtain ⟨a,ha,fa⟩:=h hy;obtain ⟨b,hb,fb⟩:=h2 (fun g hg=>hf g (List.mem_cons_of_mem _ hg)) (by omega);refine ⟨(a,b),⟨(cs.drop off).take d.sz,cs.drop off2,?_,ha,hb⟩,fa,fb⟩;rw [ho2,← List.drop_drop,List.take_append_drop]
theorem jq {P:Program} {t:TypeId} {fs:Array Field} {α:Type} {d:Kd α} {fit:α→Prop} (ht:P.underlying t=some (.struct fs)) (hs:P.cellsOf t=d.sz) (h:nG P fs.toList 0 d fit):Vm P t d fit:=by
 intro H enc w base spare held fuel cs x hx;obtain ⟨xs,n,_,_,hl,hxl,hf⟩:=DataW.trod_struct ht hx
 have:=h (w:=w) (enc:=enc) (base:=base) (spare:=spare) (held:=held) (n:=n) (cs:=cs) (fun f hfm=>by
  obtain ⟨i,hi,rfl⟩:=List.getElem_of_mem hfm;have hi':i < fs.size:=by simpa using hi
  have h1:=hf i (fs.toList[i]) (by simp [hi']);rw [List.getElem?_eq_getElem (by omega)] at h1
  exact ⟨_,h1⟩) (by omega)
 simpa using this
theorem Zx {P:Program} {t:TypeId} {α β:Type} {d:Kd α} {fit:α→Prop} {g:β→α} (gi:α→β) (hg:∀ a,g (gi a)=a) (h:Vm P t d fit):Vm P t (Kd.KS d g) (fun b=>fit (g b)):=by
 intro H enc w base spare held fuel cs x hx;obtain ⟨a,ha,hf⟩:=h hx;refine ⟨gi a,?_,?_⟩
 ·show d.K w (g (gi a)) cs
  rw [hg];exact ha
 ·show fit (g (gi a))
  rw [hg];exact hf
theorem ZO {P:Program} {t:TypeId} {fs:Array Field} {α:Type} {d:Kd α} {fit:α→Prop} {r:Reach} {b0:Nat} {H:Type} {enc:TypeId × Value→H} {w:World} {base:Nat} {spare:Nat→Bool} {held:Bool} {v:Value} {dt:DataW H} {p:List MemPlace}
  (ht:P.underlying t=some (.struct fs)) (h:Vm P t d fit) (hv:Value.okWide P w r b0 t v) (hd:DataW.Trod enc P w base spare held t v dt p) :
  ∃ (a:α) (cs:Array Value),v = .agg cs∧d.K w a cs.toList∧fit a:=by
 obtain ⟨cs,rfl,hsz⟩:=Go.WideShapes.okWide_struct ht hv;obtain ⟨fuel,hf⟩:=hd;obtain ⟨a,ha,V7⟩:=h hf;exact ⟨a,cs,rfl,by simpa [Value.cells] using ha,V7⟩
theorem BS:Vm Try.prog 22 (Kd.slice 3 (Kd.int .i64)) (fun l=>l.length ≤ 9223372036854775807∧∀ a ∈ l,Rq a):=Dr Try.underlying22 (by kernel_rfl) (Ag Try.underlying3)
def YI (x:Um):Prop:=Rq x.f0∧Rq x.f1∧Rq x.f2∧Rq x.f3∧Rq x.f4∧Rq x.f5∧(fun s=>s.size ≤ 9223372036854775807) x.f6
theorem YO:Vm Try.prog 124 nB YI:=Zx (fun p=>⟨p.1,p.2.1,p.2.2.1,p.2.2.2.1,p.2.2.2.2.1,p.2.2.2.2.2.1,p.2.2.2.2.2.2⟩) (fun _=>rfl) (jq Try.underlying124 (by kernel_rfl) (Hf rfl (by kernel_rfl) (by kernel_rfl) (Ag Try.underlying3) (Hf rfl (by kernel_rfl) (by kernel_rfl) (Ag Try.underlying3) (Hf rfl (by kernel_rfl) (by kernel_rfl) (Ag Try.underlying3) (Hf rfl (by kernel_rfl) (by kernel_rfl) (Ag Try.underlying3) (Hf rfl (by kernel_rfl) (by kernel_rfl) (Ag Try.underlying3) (Hf rfl (by kernel_rfl) (by kernel_rfl) (Ag Try.underlying3) (Du rfl (by kernel_rfl) (uD Try.underlying9)))))))))
theorem xS:Vm Try.prog 84 (Kd.slice 124 nB) (fun l=>l.length ≤ 9223372036854775807∧∀ a ∈ l,YI a):=Dr Try.underlying84 (by kernel_rfl) YO
def yQ (x:Wu):Prop:=(fun l=>l.length ≤ 9223372036854775807∧∀ a ∈ l,YI a) x.f0∧Rq x.f1∧Rq x.f2∧Rq x.f3∧Rq x.f4
theorem wS:Vm Try.prog 86 kP yQ:=Zx (fun p=>⟨p.1,p.2.1,p.2.2.1,p.2.2.2.1,p.2.2.2.2⟩) (fun _=>rfl) (jq Try.underlying86 (by kernel_rfl) (Hf rfl (by kernel_rfl) (by kernel_rfl) xS (Hf rfl (by kernel_rfl) (by kernel_rfl) (Ag Try.underlying3) (Hf rfl (by kernel_rfl) (by kernel_rfl) (Ag Try.underlying3) (Hf rfl (by kernel_rfl) (by kernel_rfl) (Ag Try.underlying3) (Du rfl (by kernel_rfl) (Ag Try.underlying3)))))))
theorem zS:Vm Try.prog 23 (Kd.slice 86 kP) (fun l=>l.length ≤ 9223372036854775807∧∀ a ∈ l,yQ a):=Dr Try.underlying23 (by kernel_rfl) wS
def zQ (x:K3):Prop:=(fun l=>l.length ≤ 9223372036854775807∧∀ a ∈ l,Rq a) x.f0∧Rq x.f1∧Rq x.f2∧Rq x.f3∧(fun l=>l.length ≤ 9223372036854775807∧∀ a ∈ l,yQ a) x.f4
theorem yS:Vm Try.prog 25 k25 zQ:=Zx (fun p=>⟨p.1,p.2.1,p.2.2.1,p.2.2.2.1,p.2.2.2.2⟩) (fun _=>rfl) (jq Try.underlying25 (by kernel_rfl) (Hf rfl (by kernel_rfl) (by kernel_rfl) BS (Hf rfl (by kernel_rfl) (by kernel_rfl) (Ag Try.underlying3) (Hf rfl (by kernel_rfl) (by kernel_rfl) (Ag Try.underlying3) (Hf rfl (by kernel_rfl) (by kernel_rfl) (Ag Try.underlying3) (Du rfl (by kernel_rfl) zS))))))
def Xa.f (a0:Int) (a1:Int) (a2:Int):Option (Bool):=if a0 ≥ a1 then (some (decide (a0 ≤ a2))) else (some false)
theorem Xa.calls (a0:Int) (a1:Int) (a2:Int) (r:Bool) (w:World) (h:Xa.f a0 a1 a2=some r) :
  Calls Try.prog 53 #[.int .i64 a0,.int .i64 a1,.int .i64 a2] w fun e w'=>e = .returned (.bool r)∧Lc w w':=by
 have H:(if a0 ≥ a1 then (some (decide (a0 ≤ a2))) else (some false))=some r:=h;clear h
 by_cases c4:a0 ≥ a1
 ·rw [if_pos c4] at H;have tj:decide (a1 ≤ a0)=true:=decide_eq_true c4;clear c4;obtain rfl:=Option.some.inj H;go_enter Try.func53,Try.ntmps53;go_wp2;go_ret;exact ⟨by first|rfl|(simp;done)|(simp [*];done),by repeat (first|exact Lc.refl _|apply Lc.step)⟩
 ·rw [if_neg c4] at H;have tj:decide (a1 ≤ a0)=false:=decide_eq_false c4;clear c4;obtain rfl:=Option.some.inj H;go_enter Try.func53,Try.ntmps53;go_wp2;go_ret;exact ⟨by first|rfl|(simp;done)|(simp [*];done),by repeat (first|exact Lc.refl _|apply Lc.step)⟩
def Ee.l0:Nat→List ByteArray→ByteArray→Int→Option (Bool)
 | 0,_,_,_=>none
 | k + 1,x0,x1,x5=>if x5 < (x0.length:Int) then (if 0 ≤ x5 then (if (Rf ByteArray.empty x0 x5).toList=x1.toList then (some true) else (Ee.l0 k x0 x1 (wrap64 (x5 + 1)))) else (none)) else (some false)
def Ee.f (k:Nat) (l0:List ByteArray) (a1:ByteArray):Option (Bool):=Ee.l0 k l0 a1 0
theorem Ee.calls (k:Nat) (A0:Option Addr) (c0:Nat) (l0:List ByteArray) (a1:ByteArray) (r:Bool) (w:World) (nk:Kd.C Kd.string w A0 l0.length l0) (hc0:l0.length ≤ c0) (h:Ee.f k l0 a1=some r) :
  Calls Try.prog 113 #[.slice A0 l0.length c0,.string a1] w fun e w'=>e = .returned (.bool r)∧Lc w w':=by
 have mo:=ja.mk nk;have ZH:=ja.mk hc0;clear nk hc0;have H:(Ee.l0 k l0 a1 0)=some r:=h;clear h;have H':=ja.mk H;clear H;go_enter Try.func113,Try.ntmps113;go_wp2
 go_loopg [5] k (fun kq v5 w'=>∃ (Ea:Int),v5 = .int .i64 Ea∧ja (Ee.l0 kq l0 a1 Ea=some r)∧ja (kq ≤ k)∧Lc w w')
 case atStart=>exact ⟨(0),(by first|rfl|(simp;done)|(simp [*];done)),H',⟨Nat.le_refl _⟩,by repeat (first|exact Lc.refl _|apply Lc.step)⟩
 case round =>
  clear H'
  try clear c1
  try clear p2
  (try clear HA);(try clear qg);obtain ⟨Ea,rfl,HA,qg,⟨m1,rfl⟩⟩:=hrel;cases gk with
  | zero=>exact absurd HA.out (by simp [Ee.l0])
  | succ k1 =>
   have H:=HA.out;clear HA;simp only [Ee.l0] at H
   by_cases c3:Ea < (l0.length:Int)
   ·rw [if_pos c3] at H;have Wg:decide (Ea < (l0.length:Int))=true:=decide_eq_true c3;clear c3
    by_cases c4:0 ≤ Ea
    ·rw [if_pos c4] at H;have tj:decide (0 ≤ Ea)=true:=decide_eq_true c4;clear c4
     by_cases c5:(Rf ByteArray.empty l0 Ea).toList=a1.toList
     ·rw [if_pos c5] at H;have ki:((Rf ByteArray.empty l0 Ea).toList == a1.toList)=true:=beq_iff_eq.mpr c5;have Uu:((Rf ByteArray.empty l0 Ea).toList != a1.toList)=false:=bne_eq_false_iff_eq.mpr c5;clear c5;obtain rfl:=Option.some.inj H;have zf:0 ≤ (Ea:Int):=Ua;have yf:Ea < (l0.length:Int):=Ua;obtain ⟨qe,sj,Td⟩:=Kd.eu mo.out Ea zf yf;cases sj;replace zf:=eq_true zf;replace yf:=eq_true yf;go_wp2;go_ret;exact ⟨by first|rfl|(simp;done)|(simp [*];done),by repeat (first|exact Lc.refl _|apply Lc.step)⟩
     ·rw [if_neg c5] at H;have ki:((Rf ByteArray.empty l0 Ea).toList == a1.toList)=false:=beq_eq_false_iff_ne.mpr c5;have Uu:((Rf ByteArray.empty l0 Ea).toList != a1.toList)=true:=bne_iff_ne.mpr c5;have H':=ja.mk H;clear H;have zf:0 ≤ (Ea:Int):=Ua;have yf:Ea < (l0.length:Int):=Ua;obtain ⟨qe,sj,Td⟩:=Kd.eu mo.out Ea zf yf;cases sj;replace zf:=eq_true zf;replace yf:=eq_true yf;go_wp2
      go_roundg k1
      case measure=>have:=qg.out;omega
      case rel=>exact ⟨(wrap64 (Ea + 1)),(by first|rfl|(simp;done)|(simp [*];done)),H',⟨by have:=qg.out;omega⟩,by repeat (first|exact Lc.refl _|apply Lc.step)⟩
    ·rw [if_neg c4] at H;exact absurd H (by simp)
   ·rw [if_neg c3] at H;have Wg:decide (Ea < (l0.length:Int))=false:=decide_eq_false c3;clear c3;obtain rfl:=Option.some.inj H;go_wp2;go_ret;exact ⟨by first|rfl|(simp;done)|(simp [*];done),by repeat (first|exact Lc.refl _|apply Lc.step)⟩
mutual
def jb.j0:Nat→Bool→Bool→Bool→Bool→List Int→Int→Int→Int→List (We)→Int→Int→Int→Int→Int→Int→ByteArray→Option (Bool)
 | 0,_,_,_,_,_,_,_,_,_,_,_,_,_,_,_,_=>none
 | k + 1,x5,x6,x7,x8,jc,Ec,tc,oc,Rb,Gf,zj,Rj,Ei,Di,qm,Qo=>if Gf=2 then (if Gf=4 then (jb.j1 k x5 x6 x7 x8 false jc Ec tc oc Rb Gf zj Rj Ei Di qm Qo) else (jb.j1 k x5 x6 x7 x8 (Di != 0) jc Ec tc oc Rb Gf zj Rj Ei Di qm Qo)) else (if Qo.toList=([]:List UInt8) then (if Gf=4 then (jb.j1 k x5 x6 x7 x8 false jc Ec tc oc Rb Gf zj Rj Ei Di qm Qo) else (jb.j1 k x5 x6 x7 x8 (Di != 0) jc Ec tc oc Rb Gf zj Rj Ei Di qm Qo)) else (jb.j1 k x5 x6 x7 x8 true jc Ec tc oc Rb Gf zj Rj Ei Di qm Qo))
def jb.j1:Nat→Bool→Bool→Bool→Bool→Bool→List Int→Int→Int→Int→List (We)→Int→Int→Int→Int→Int→Int→ByteArray→Option (Bool)
 | 0,_,_,_,_,_,_,_,_,_,_,_,_,_,_,_,_,_=>none
 | k + 1,x5,x6,x7,x8,x62,jc,Ec,tc,oc,Rb,Gf,zj,Rj,Ei,Di,qm,Qo=>if x62=true then (some false) else (if Gf=0 then (if x5=true then (if Rj=0 then (some (Ei == 0)) else (some false)) else (some false)) else (if Gf=1 then (if x5=true then (if x6=true then (if Ei=0 then (some (qm == 0)) else (some false)) else (some false)) else (some false)) else (if Gf=2 then (if x5=true then (if x6=true then (if x7=true then (if qm=0 then ((Ee.f k (([(⟨#[61,61]⟩:ByteArray),(⟨#[60]⟩:ByteArray),(⟨#[38]⟩:ByteArray),(⟨#[43]⟩:ByteArray),(⟨#[45]⟩:ByteArray),(⟨#[42]⟩:ByteArray)]:List ByteArray)) Qo).bind fun t111=>(some t111)) else (some false)) else (some false)) else (some false)) else (some false)) else (if Gf=3 then (if x5=true then (some x8) else (some false)) else (if Gf=4 then (if zj=0 then (if x8=true then ((Xa.f Di 0 (wrap64 (oc - 1))).bind fun t112=>(some t112)) else (some false)) else (some false)) else (if Gf=5 then (if x5=true then (if Rj=0 then (if Ei=0 then (some (qm == 0)) else (some false)) else (some false)) else (some false)) else (if Gf=6 then (if zj=0 then (if x6=true then (if Ei=0 then (some (qm == 0)) else (some false)) else (some false)) else (some false)) else (some false))))))))
end
def jb.f (k:Nat) (Ra:List Int) (La:Int) (Ja:Int) (Ia:Int) (Fa:List (We)) (yc:Int) (Qb:Int) (Jb:Int) (Kb:Int) (ec:Int) (Gc:Int) (Tc:ByteArray):Option (Bool):=(Xa.f Qb 0 (wrap64 (Ia - 1))).bind fun t103=>((Xa.f Jb 0 (wrap64 (Ia - 1))).bind fun t104=>((Xa.f Kb 0 (wrap64 (Ia - 1))).bind fun t105=>(if t104=true then (if t105=true then ((Xa.f Gc 0 (wrap64 ((Ra.length:Int) - 1))).bind fun t106=>(jb.j0 k t103 t104 t105 t106 Ra La Ja Ia Fa yc Qb Jb Kb ec Gc Tc)) else (jb.j0 k t103 t104 t105 false Ra La Ja Ia Fa yc Qb Jb Kb ec Gc Tc)) else (if Jb=(-1) then (if t105=true then ((Xa.f Gc 0 (wrap64 ((Ra.length:Int) - 1))).bind fun t107=>(jb.j0 k t103 t104 t105 t107 Ra La Ja Ia Fa yc Qb Jb Kb ec Gc Tc)) else (jb.j0 k t103 t104 t105 false Ra La Ja Ia Fa yc Qb Jb Kb ec Gc Tc)) else (jb.j0 k t103 t104 t105 false Ra La Ja Ia Fa yc Qb Jb Kb ec Gc Tc)))))
theorem jb.calls (k:Nat) (Za:Option Addr) (gb:Nat) (Ra:List Int) (La:Int) (Ja:Int) (Ia:Int) (Vb:Option Addr) (Lb:Nat) (Fa:List (We)) (yc:Int) (Qb:Int) (Jb:Int) (Kb:Int) (ec:Int) (Gc:Int) (Tc:ByteArray) (r:Bool) (w:World) (Zd:Kd.C (Kd.int .i64) w Za Ra.length Ra) (Xd:Ra.length ≤ gb) (Tf:Kd.C Kp w Vb Fa.length Fa) (Kf:Fa.length ≤ Lb) (h:jb.f k Ra La Ja Ia Fa yc Qb Jb Kb ec Gc Tc=some r) :
  Calls Try.prog 97 #[.agg #[.slice Za Ra.length gb,.int .i64 La,.int .i64 Ja,.int .i64 Ia,.slice Vb Fa.length Lb],.agg #[.int .i64 yc,.int .i64 Qb,.int .i64 Jb,.int .i64 Kb,.int .i64 ec,.int .i64 Gc,.string Tc]] w fun e w'=>e = .returned (.bool r)∧Below w.heap.size w w':=by
 have vC:=Try.underlying30;have fy:=Try.underlying65;have He:=ja.mk Zd;have Me:=ja.mk Xd;clear Zd Xd;have Uf:=ja.mk Tf;have Ug:=ja.mk Kf;clear Tf Kf;have HB:=ja.mk (Below.refl w.heap.size w);have H:((Xa.f Qb 0 (wrap64 (Ia - 1))).bind fun t103=>((Xa.f Jb 0 (wrap64 (Ia - 1))).bind fun t104=>((Xa.f Kb 0 (wrap64 (Ia - 1))).bind fun t105=>(if t104=true then (if t105=true then ((Xa.f Gc 0 (wrap64 ((Ra.length:Int) - 1))).bind fun t106=>(jb.j0 k t103 t104 t105 t106 Ra La Ja Ia Fa yc Qb Jb Kb ec Gc Tc)) else (jb.j0 k t103 t104 t105 false Ra La Ja Ia Fa yc Qb Jb Kb ec Gc Tc)) else (if Jb=(-1) then (if t105=true then ((Xa.f Gc 0 (wrap64 ((Ra.length:Int) - 1))).bind fun t107=>(jb.j0 k t103 t104 t105 t107 Ra La Ja Ia Fa yc Qb Jb Kb ec Gc Tc)) else (jb.j0 k t103 t104 t105 false Ra La Ja Ia Fa yc Qb Jb Kb ec Gc Tc)) else (jb.j0 k t103 t104 t105 false Ra La Ja Ia Fa yc Qb Jb Kb ec Gc Tc))))))=some r:=h;clear h;replace H:=Option.bind_eq_some_iff.mp H;obtain ⟨t103,Zu,H⟩:=H;replace H:((Xa.f Jb 0 (wrap64 (Ia - 1))).bind fun t104=>((Xa.f Kb 0 (wrap64 (Ia - 1))).bind fun t105=>(if t104=true then (if t105=true then ((Xa.f Gc 0 (wrap64 ((Ra.length:Int) - 1))).bind fun t106=>(jb.j0 k t103 t104 t105 t106 Ra La Ja Ia Fa yc Qb Jb Kb ec Gc Tc)) else (jb.j0 k t103 t104 t105 false Ra La Ja Ia Fa yc Qb Jb Kb ec Gc Tc)) else (if Jb=(-1) then (if t105=true then ((Xa.f Gc 0 (wrap64 ((Ra.length:Int) - 1))).bind fun t107=>(jb.j0 k t103 t104 t105 t107 Ra La Ja Ia Fa yc Qb Jb Kb ec Gc Tc)) else (jb.j0 k t103 t104 t105 false Ra La Ja Ia Fa yc Qb Jb Kb ec Gc Tc)) else (jb.j0 k t103 t104 t105 false Ra La Ja Ia Fa yc Qb Jb Kb ec Gc Tc)))))=some r:=H;have A3:=ja.mk Zu;clear Zu;replace H:=Option.bind_eq_some_iff.mp H;obtain ⟨t104,UX,H⟩:=H;replace H:((Xa.f Kb 0 (wrap64 (Ia - 1))).bind fun t105=>(if t104=true then (if t105=true then ((Xa.f Gc 0 (wrap64 ((Ra.length:Int) - 1))).bind fun t106=>(jb.j0 k t103 t104 t105 t106 Ra La Ja Ia Fa yc Qb Jb Kb ec Gc Tc)) else (jb.j0 k t103 t104 t105 false Ra La Ja Ia Fa yc Qb Jb Kb ec Gc Tc)) else (if Jb=(-1) then (if t105=true then ((Xa.f Gc 0 (wrap64 ((Ra.length:Int) - 1))).bind fun t107=>(jb.j0 k t103 t104 t105 t107 Ra La Ja Ia Fa yc Qb Jb Kb ec Gc Tc)) else (jb.j0 k t103 t104 t105 false Ra La Ja Ia Fa yc Qb Jb Kb ec Gc Tc)) else (jb.j0 k t103 t104 t105 false Ra La Ja Ia Fa yc Qb Jb Kb ec Gc Tc))))=some r:=H;have A4:=ja.mk UX;clear UX;replace H:=Option.bind_eq_some_iff.mp H;obtain ⟨t105,SX,H⟩:=H;replace H:(if t104=true then (if t105=true then ((Xa.f Gc 0 (wrap64 ((Ra.length:Int) - 1))).bind fun t106=>(jb.j0 k t103 t104 t105 t106 Ra La Ja Ia Fa yc Qb Jb Kb ec Gc Tc)) else (jb.j0 k t103 t104 t105 false Ra La Ja Ia Fa yc Qb Jb Kb ec Gc Tc)) else (if Jb=(-1) then (if t105=true then ((Xa.f Gc 0 (wrap64 ((Ra.length:Int) - 1))).bind fun t107=>(jb.j0 k t103 t104 t105 t107 Ra La Ja Ia Fa yc Qb Jb Kb ec Gc Tc)) else (jb.j0 k t103 t104 t105 false Ra La Ja Ia Fa yc Qb Jb Kb ec Gc Tc)) else (jb.j0 k t103 t104 t105 false Ra La Ja Ia Fa yc Qb Jb Kb ec Gc Tc)))=some r:=H;have A5:=ja.mk SX;clear SX;have HC6:=ja.mk H;clear H;go_enter Try.func97,Try.ntmps97
 go_upto_region 4 with (first|((with_reducible refine xb (N:=2) rfl ?_);(try (refine ug (by rfl) ?_;dsimp only));refine Fb ?hg (N:=2) ?hd (cs:=#[.slice Za Ra.length gb,.int .i64 La,.int .i64 Ja,.int .i64 Ia,.slice Vb Fa.length Lb]) (t:=30) ?hr ?_;(case hd=>rfl);(case hg=>rfl);(case hr=>first|(go_simp;done)|(go_simp;rfl));intro ya hg w7 Pb hb;have Bb:=ja.mk (Qa (by repeat (first|(with_reducible first|exact HB.out|apply qa|apply ia|apply ta)|exact HB.out)) hb);have Gb:=ja.mk (Pb);have Nb:=ja.mk ((by rw [hg];exact (Ka (by repeat (first|(with_reducible first|exact HB.out|apply qa|apply ia|apply ta)|exact HB.out))):w.heap.size ≤ ya));have Dc:=ja.mk ((by rw [hg];exact (Ka (by repeat (first|(with_reducible first|exact HB.out|apply qa|apply ia|apply ta)|exact HB.out))):w.heap.size ≤ ya));clear HB;have HB:=Bb;have oa:=Gb;have Ad:=Nb;have Ta:=Dc;clear Bb Gb Nb Dc hb Pb hg)|((with_reducible refine xb (N:=3) rfl ?_);(try (refine ug (by rfl) ?_;dsimp only));refine Fb ?hg (N:=3) ?hd (cs:=#[.int .i64 yc,.int .i64 Qb,.int .i64 Jb,.int .i64 Kb,.int .i64 ec,.int .i64 Gc,.string Tc]) (t:=65) ?hr ?_;(case hd=>rfl);(case hg=>rfl);(case hr=>first|(go_simp;done)|(go_simp;rfl));intro Ga hg w8 Pb hb;have Bb:=ja.mk (Va (g:=ya) (o:=.cells #[.slice Za Ra.length gb,.int .i64 La,.int .i64 Ja,.int .i64 Ia,.slice Vb Fa.length Lb] 30 (0,0)) (by (with_reducible repeat (first|refine Aa ?_ _|refine Da ?_|refine Ba ?_ _));exact oa.out) hb);have Gb:=ja.mk (Qa (by repeat (first|(with_reducible first|exact HB.out|apply qa|apply ia|apply ta|refine ua ?_ Ta.out)|exact HB.out)) hb);have Nb:=ja.mk (Pb);have Dc:=ja.mk ((by rw [hg];exact (Ka (by repeat (first|(with_reducible first|exact HB.out|apply qa|apply ia|apply ta|refine ua ?_ Ta.out)|exact HB.out))):w.heap.size ≤ Ga));have Jf:=ja.mk ((by rw [hg];exact (Ka (by repeat (first|(with_reducible first|exact HB.out|apply qa|apply ia|apply ta|refine ua ?_ Ta.out)|exact HB.out))):w.heap.size ≤ Ga));have sg:=ja.mk ((by rw [hg];exact Nat.ne_of_lt (Rc (g:=ya) (o:=.cells #[.slice Za Ra.length gb,.int .i64 La,.int .i64 Ja,.int .i64 Ia,.slice Vb Fa.length Lb] 30 (0,0)) (by (with_reducible repeat (first|refine Aa ?_ _|refine Da ?_|refine Ba ?_ _));exact oa.out)):ya ≠ Ga));have Bg:=ja.mk ((by rw [hg];exact Nat.ne_of_gt (Rc (g:=ya) (o:=.cells #[.slice Za Ra.length gb,.int .i64 La,.int .i64 Ja,.int .i64 Ia,.slice Vb Fa.length Lb] 30 (0,0)) (by (with_reducible repeat (first|refine Aa ?_ _|refine Da ?_|refine Ba ?_ _));exact oa.out)):Ga ≠ ya));clear oa HB;have oa:=Bb;have HB:=Gb;have za:=Nb;have mj:=Dc;have uc:=Jf;have Db:=sg;have Cb:=Bg;clear Bb Gb Nb Dc Jf sg Bg hb Pb hg;have wak:=Cb.out;have iak:=Db.out;have uh:w8.cell? ⟨Ga,0,none⟩=some (.int .i64 yc):=(ga za.out 0).trans rfl;have th:w8.cell? ⟨Ga,1,none⟩=some (.int .i64 Qb):=(ga za.out 1).trans rfl;have qh:w8.cell? ⟨Ga,2,none⟩=some (.int .i64 Jb):=(ga za.out 2).trans rfl;have oh:w8.cell? ⟨Ga,3,none⟩=some (.int .i64 Kb):=(ga za.out 3).trans rfl;have nh:w8.cell? ⟨Ga,4,none⟩=some (.int .i64 ec):=(ga za.out 4).trans rfl;have sx:w8.cell? ⟨Ga,5,none⟩=some (.int .i64 Gc):=(ga za.out 5).trans rfl;have qx:w8.cell? ⟨Ga,6,none⟩=some (.string Tc):=(ga za.out 6).trans rfl;have mh:=aa za.out 0;have jh:=aa za.out 1;have gh:=aa za.out 2;have fh:=aa za.out 3;have dh:=aa za.out 4;have Pw:=aa za.out 5;have Ow:=aa za.out 6;have eo:w8.cell? ⟨ya,0,none⟩=some (.slice Za Ra.length gb):=(ga oa.out 0).trans rfl;have Zn:w8.cell? ⟨ya,1,none⟩=some (.int .i64 La):=(ga oa.out 1).trans rfl;have Yn:w8.cell? ⟨ya,2,none⟩=some (.int .i64 Ja):=(ga oa.out 2).trans rfl;have Xn:w8.cell? ⟨ya,3,none⟩=some (.int .i64 Ia):=(ga oa.out 3).trans rfl;have Wn:w8.cell? ⟨ya,4,none⟩=some (.slice Vb Fa.length Lb):=(ga oa.out 4).trans rfl;have Vn:=aa oa.out 0;have Un:=aa oa.out 1;have Tn:=aa oa.out 2;have Sn:=aa oa.out 3;have Rn:=aa oa.out 4)|((with_reducible refine qb (f:=53) rfl ?_);refine Mc (some 14) rfl rfl Try.func53 (by kernel_rfl) rfl #[.int .i64 Qb,.int .i64 0,.int .i64 (wrap64 (Ia - 1))] rfl (by (try simp only [List.map_toArray,List.map_cons,List.map_nil]);first|done|rfl|(simp only [List.length_drop,List.length_take];rfl)) ?_;(with_reducible refine (Xa.calls Qb 0 (wrap64 (Ia - 1)) t103 _ A3.out).mono ?_);rintro e w' ⟨rfl,⟨nd,rfl⟩⟩;refine ⟨_,rfl,?_⟩)|((with_reducible refine qb (f:=53) rfl ?_);refine Mc (some 20) rfl rfl Try.func53 (by kernel_rfl) rfl #[.int .i64 Jb,.int .i64 0,.int .i64 (wrap64 (Ia - 1))] rfl (by (try simp only [List.map_toArray,List.map_cons,List.map_nil]);first|done|rfl|(simp only [List.length_drop,List.length_take];rfl)) ?_;(with_reducible refine (Xa.calls Jb 0 (wrap64 (Ia - 1)) t104 _ A4.out).mono ?_);rintro e w' ⟨rfl,⟨nd,rfl⟩⟩;refine ⟨_,rfl,?_⟩)|((with_reducible refine qb (f:=53) rfl ?_);refine Mc (some 26) rfl rfl Try.func53 (by kernel_rfl) rfl #[.int .i64 Kb,.int .i64 0,.int .i64 (wrap64 (Ia - 1))] rfl (by (try simp only [List.map_toArray,List.map_cons,List.map_nil]);first|done|rfl|(simp only [List.length_drop,List.length_take];rfl)) ?_;(with_reducible refine (Xa.calls Kb 0 (wrap64 (Ia - 1)) t105 _ A5.out).mono ?_);rintro e w' ⟨rfl,⟨nd,rfl⟩⟩;refine ⟨_,rfl,?_⟩))
 (try simp only [Act.put,List.setIfInBounds_toArray,List.set_cons_zero,List.set_cons_succ])
 go_cut [8] (fun v8 wc=>∃ (kq:Nat) (GG:Bool),v8 = .bool GG∧ja (jb.j0 kq t103 t104 t105 GG Ra La Ja Ia Fa yc Qb Jb Kb ec Gc Tc=some r)∧ja (kq ≤ k)∧ja (wc.heap[ya]? = some (.cells #[(.slice Za Ra.length gb),.int .i64 La,.int .i64 Ja,.int .i64 Ia,(.slice Vb Fa.length Lb)] 30 (0,0)))∧ja (wc.heap[Ga]? = some (.cells #[.int .i64 yc,.int .i64 Qb,.int .i64 Jb,.int .i64 Kb,.int .i64 ec,.int .i64 Gc,.string Tc] 65 (0,0)))∧ja (Below w.heap.size w wc))
 case first =>
  have H:=HC6.out;clear HC6
  by_cases Ky:t104=true
  ·subst Ky;have H1:(if t105=true then ((Xa.f Gc 0 (wrap64 ((Ra.length:Int) - 1))).bind fun t106=>(jb.j0 k t103 true t105 t106 Ra La Ja Ia Fa yc Qb Jb Kb ec Gc Tc)) else (jb.j0 k t103 true t105 false Ra La Ja Ia Fa yc Qb Jb Kb ec Gc Tc))=some r:=by rw [if_pos rfl] at H;exact H
   clear H;have H:=H1;clear H1
   by_cases kC:t105=true
   ·subst kC;have H1:((Xa.f Gc 0 (wrap64 ((Ra.length:Int) - 1))).bind fun t106=>(jb.j0 k t103 true true t106 Ra La Ja Ia Fa yc Qb Jb Kb ec Gc Tc))=some r:=by rw [if_pos rfl] at H;exact H
    clear H;have H:=H1;clear H1;replace H:=Option.bind_eq_some_iff.mp H;obtain ⟨t106,bC,H⟩:=H;replace H:(jb.j0 k t103 true true t106 Ra La Ja Ia Fa yc Qb Jb Kb ec Gc Tc)=some r:=H;have Z2:=ja.mk bC;clear bC;have H':=ja.mk H;clear H;have I5:=Cb.out;have Y4:=Db.out;have Gm:w8.cell? ⟨Ga,0,none⟩=some (.int .i64 yc):=(ga za.out 0).trans rfl;have Fm:w8.cell? ⟨Ga,1,none⟩=some (.int .i64 Qb):=(ga za.out 1).trans rfl;have Em:w8.cell? ⟨Ga,2,none⟩=some (.int .i64 Jb):=(ga za.out 2).trans rfl;have Dm:w8.cell? ⟨Ga,3,none⟩=some (.int .i64 Kb):=(ga za.out 3).trans rfl;have Cm:w8.cell? ⟨Ga,4,none⟩=some (.int .i64 ec):=(ga za.out 4).trans rfl;have AA:w8.cell? ⟨Ga,5,none⟩=some (.int .i64 Gc):=(ga za.out 5).trans rfl;have zA:w8.cell? ⟨Ga,6,none⟩=some (.string Tc):=(ga za.out 6).trans rfl;have Bm:=aa za.out 0;have Am:=aa za.out 1;have zm:=aa za.out 2;have ym:=aa za.out 3;have xm:=aa za.out 4;have cA:=aa za.out 5;have bA:=aa za.out 6;have yA:w8.cell? ⟨ya,0,none⟩=some (.slice Za Ra.length gb):=(ga oa.out 0).trans rfl;have xA:w8.cell? ⟨ya,1,none⟩=some (.int .i64 La):=(ga oa.out 1).trans rfl;have wA:w8.cell? ⟨ya,2,none⟩=some (.int .i64 Ja):=(ga oa.out 2).trans rfl;have vA:w8.cell? ⟨ya,3,none⟩=some (.int .i64 Ia):=(ga oa.out 3).trans rfl;have uA:w8.cell? ⟨ya,4,none⟩=some (.slice Vb Fa.length Lb):=(ga oa.out 4).trans rfl;have aA:=aa oa.out 0;have Zz:=aa oa.out 1;have Yz:=aa oa.out 2;have Xz:=aa oa.out 3;have Wz:=aa oa.out 4;go_wp2_with (first|(go_at_call 53;(with_reducible refine (Xa.calls Gc 0 (wrap64 ((Ra.length:Int) - 1)) t106 _ Z2.out).mono ?_);rintro e w' ⟨rfl,⟨nd,rfl⟩⟩))
    go_meet
    case rel=>exact ⟨_,(t106),(by first|rfl|(simp;done)|(simp [*];done)),H',⟨by first|omega|exact Nat.le_refl _⟩,⟨by (with_reducible repeat (first|refine Aa ?_ _|refine Da ?_|refine Ba ?_ _));exact oa.out⟩,⟨by (with_reducible repeat (first|refine Aa ?_ _|refine Da ?_|refine Ba ?_ _));exact za.out⟩,⟨by repeat (first|(with_reducible first|exact HB.out|apply qa|apply ia|apply ta|refine ua ?_ Ta.out|refine ua ?_ uc.out)|exact HB.out)⟩⟩
   ·replace kC:=Bool.eq_false_iff.mpr kC;subst kC;have H1:(jb.j0 k t103 true false false Ra La Ja Ia Fa yc Qb Jb Kb ec Gc Tc)=some r:=by rw [if_neg (show ¬ (false=true) by decide)] at H;exact H
    clear H;have H:=H1;clear H1;have H':=ja.mk H;clear H;go_wp2
    go_meet
    case rel=>exact ⟨_,(false),(by first|rfl|(simp;done)|(simp [*];done)),H',⟨by first|omega|exact Nat.le_refl _⟩,⟨by (with_reducible repeat (first|refine Aa ?_ _|refine Da ?_|refine Ba ?_ _));exact oa.out⟩,⟨by (with_reducible repeat (first|refine Aa ?_ _|refine Da ?_|refine Ba ?_ _));exact za.out⟩,⟨by repeat (first|(with_reducible first|exact HB.out|apply qa|apply ia|apply ta|refine ua ?_ Ta.out|refine ua ?_ uc.out)|exact HB.out)⟩⟩
  ·replace Ky:=Bool.eq_false_iff.mpr Ky;subst Ky;have H1:(if Jb=(-1) then (if t105=true then ((Xa.f Gc 0 (wrap64 ((Ra.length:Int) - 1))).bind fun t107=>(jb.j0 k t103 false t105 t107 Ra La Ja Ia Fa yc Qb Jb Kb ec Gc Tc)) else (jb.j0 k t103 false t105 false Ra La Ja Ia Fa yc Qb Jb Kb ec Gc Tc)) else (jb.j0 k t103 false t105 false Ra La Ja Ia Fa yc Qb Jb Kb ec Gc Tc))=some r:=by rw [if_neg (show ¬ (false=true) by decide)] at H;exact H
   clear H;have H:=H1;clear H1
   by_cases Zp:Jb=(-1)
   ·rw [if_pos Zp] at H;have Jo:(Jb == (-1))=true:=beq_iff_eq.mpr Zp;have UQ:(Jb != (-1))=false:=bne_eq_false_iff_eq.mpr Zp;clear Zp;(first|rw [Jo]|(simp only [Yb,Zb];rw [Jo])|skip)
    by_cases Xm:t105=true
    ·subst Xm;have H1:((Xa.f Gc 0 (wrap64 ((Ra.length:Int) - 1))).bind fun t107=>(jb.j0 k t103 false true t107 Ra La Ja Ia Fa yc Qb Jb Kb ec Gc Tc))=some r:=by rw [if_pos rfl] at H;exact H
     clear H;have H:=H1;clear H1;replace H:=Option.bind_eq_some_iff.mp H;obtain ⟨t107,dI,H⟩:=H;replace H:(jb.j0 k t103 false true t107 Ra La Ja Ia Fa yc Qb Jb Kb ec Gc Tc)=some r:=H;have sN:=ja.mk dI;clear dI;have H':=ja.mk H;clear H;have Aap:=Cb.out;have Oao:=Db.out;have ax:w8.cell? ⟨Ga,0,none⟩=some (.int .i64 yc):=(ga za.out 0).trans rfl;have Zw:w8.cell? ⟨Ga,1,none⟩=some (.int .i64 Qb):=(ga za.out 1).trans rfl;have Yw:w8.cell? ⟨Ga,2,none⟩=some (.int .i64 Jb):=(ga za.out 2).trans rfl;have Xw:w8.cell? ⟨Ga,3,none⟩=some (.int .i64 Kb):=(ga za.out 3).trans rfl;have Ww:w8.cell? ⟨Ga,4,none⟩=some (.int .i64 ec):=(ga za.out 4).trans rfl;have DM:w8.cell? ⟨Ga,5,none⟩=some (.int .i64 Gc):=(ga za.out 5).trans rfl;have CM:w8.cell? ⟨Ga,6,none⟩=some (.string Tc):=(ga za.out 6).trans rfl;have Iw:=aa za.out 0;have Hw:=aa za.out 1;have Gw:=aa za.out 2;have Fw:=aa za.out 3;have Ew:=aa za.out 4;have BL:=aa za.out 5;have AL:=aa za.out 6;have yp:w8.cell? ⟨ya,0,none⟩=some (.slice Za Ra.length gb):=(ga oa.out 0).trans rfl;have xp:w8.cell? ⟨ya,1,none⟩=some (.int .i64 La):=(ga oa.out 1).trans rfl;have vp:w8.cell? ⟨ya,2,none⟩=some (.int .i64 Ja):=(ga oa.out 2).trans rfl;have qp:w8.cell? ⟨ya,3,none⟩=some (.int .i64 Ia):=(ga oa.out 3).trans rfl;have lp:w8.cell? ⟨ya,4,none⟩=some (.slice Vb Fa.length Lb):=(ga oa.out 4).trans rfl;have gp:=aa oa.out 0;have ep:=aa oa.out 1;have bp:=aa oa.out 2;have Zo:=aa oa.out 3;have Yo:=aa oa.out 4;go_wp2_with (first|(go_at_call 53;(with_reducible refine (Xa.calls Gc 0 (wrap64 ((Ra.length:Int) - 1)) t107 _ sN.out).mono ?_);rintro e w' ⟨rfl,⟨nd,rfl⟩⟩))
     go_meet
     case rel=>exact ⟨_,(t107),(by first|rfl|(simp;done)|(simp [*];done)),H',⟨by first|omega|exact Nat.le_refl _⟩,⟨by (with_reducible repeat (first|refine Aa ?_ _|refine Da ?_|refine Ba ?_ _));exact oa.out⟩,⟨by (with_reducible repeat (first|refine Aa ?_ _|refine Da ?_|refine Ba ?_ _));exact za.out⟩,⟨by repeat (first|(with_reducible first|exact HB.out|apply qa|apply ia|apply ta|refine ua ?_ Ta.out|refine ua ?_ uc.out)|exact HB.out)⟩⟩
    ·replace Xm:=Bool.eq_false_iff.mpr Xm;subst Xm;have H1:(jb.j0 k t103 false false false Ra La Ja Ia Fa yc Qb Jb Kb ec Gc Tc)=some r:=by rw [if_neg (show ¬ (false=true) by decide)] at H;exact H
     clear H;have H:=H1;clear H1;have H':=ja.mk H;clear H;have F5:=Cb.out;have W4:=Db.out;have Wt:w8.cell? ⟨Ga,0,none⟩=some (.int .i64 yc):=(ga za.out 0).trans rfl;have Vt:w8.cell? ⟨Ga,1,none⟩=some (.int .i64 Qb):=(ga za.out 1).trans rfl;have Ut:w8.cell? ⟨Ga,2,none⟩=some (.int .i64 Jb):=(ga za.out 2).trans rfl;have Tt:w8.cell? ⟨Ga,3,none⟩=some (.int .i64 Kb):=(ga za.out 3).trans rfl;have St:w8.cell? ⟨Ga,4,none⟩=some (.int .i64 ec):=(ga za.out 4).trans rfl;have BM:w8.cell? ⟨Ga,5,none⟩=some (.int .i64 Gc):=(ga za.out 5).trans rfl;have zM:w8.cell? ⟨Ga,6,none⟩=some (.string Tc):=(ga za.out 6).trans rfl;have nt:=aa za.out 0;have jt:=aa za.out 1;have ct:=aa za.out 2;have bt:=aa za.out 3;have Zs:=aa za.out 4;have zL:=aa za.out 5;have yL:=aa za.out 6;go_wp2
     go_meet
     case rel=>exact ⟨_,(false),(by first|rfl|(simp;done)|(simp [*];done)),H',⟨by first|omega|exact Nat.le_refl _⟩,⟨by (with_reducible repeat (first|refine Aa ?_ _|refine Da ?_|refine Ba ?_ _));exact oa.out⟩,⟨by (with_reducible repeat (first|refine Aa ?_ _|refine Da ?_|refine Ba ?_ _));exact za.out⟩,⟨by repeat (first|(with_reducible first|exact HB.out|apply qa|apply ia|apply ta|refine ua ?_ Ta.out|refine ua ?_ uc.out)|exact HB.out)⟩⟩
   ·rw [if_neg Zp] at H;have Jo:(Jb == (-1))=false:=beq_eq_false_iff_ne.mpr Zp;have UQ:(Jb != (-1))=true:=bne_iff_ne.mpr Zp;(first|rw [Jo]|(simp only [Yb,Zb];rw [Jo])|skip);have H':=ja.mk H;clear H;have D5:=Cb.out;have U4:=Db.out;have Mt:w8.cell? ⟨Ga,0,none⟩=some (.int .i64 yc):=(ga za.out 0).trans rfl;have Lt:w8.cell? ⟨Ga,1,none⟩=some (.int .i64 Qb):=(ga za.out 1).trans rfl;have Kt:w8.cell? ⟨Ga,2,none⟩=some (.int .i64 Jb):=(ga za.out 2).trans rfl;have Jt:w8.cell? ⟨Ga,3,none⟩=some (.int .i64 Kb):=(ga za.out 3).trans rfl;have Ht:w8.cell? ⟨Ga,4,none⟩=some (.int .i64 ec):=(ga za.out 4).trans rfl;have QF:w8.cell? ⟨Ga,5,none⟩=some (.int .i64 Gc):=(ga za.out 5).trans rfl;have PF:w8.cell? ⟨Ga,6,none⟩=some (.string Tc):=(ga za.out 6).trans rfl;have Ts:=aa za.out 0;have Ss:=aa za.out 1;have Rs:=aa za.out 2;have Qs:=aa za.out 3;have Ns:=aa za.out 4;have JE:=aa za.out 5;have IE:=aa za.out 6;go_wp2
    go_meet
    case rel=>exact ⟨_,(false),(by first|rfl|(simp;done)|(simp [*];done)),H',⟨by first|omega|exact Nat.le_refl _⟩,⟨by (with_reducible repeat (first|refine Aa ?_ _|refine Da ?_|refine Ba ?_ _));exact oa.out⟩,⟨by (with_reducible repeat (first|refine Aa ?_ _|refine Da ?_|refine Ba ?_ _));exact za.out⟩,⟨by repeat (first|(with_reducible first|exact HB.out|apply qa|apply ia|apply ta|refine ua ?_ Ta.out|refine ua ?_ uc.out)|exact HB.out)⟩⟩
 case rest =>
  clear HC6
  try clear c1
  try clear c2
  try clear p2
  try clear c5
  try clear p6
  try clear c9
  try clear Ky
  try clear kC
  try clear CA
  try clear Zp
  try clear Jo
  try clear UQ
  try clear Xm
  try clear zx
  try clear jO
  try clear JH
  try clear uh
  try clear th
  try clear qh
  try clear oh
  try clear nh
  try clear sx
  try clear qx
  try clear eo
  try clear Zn
  try clear Yn
  try clear Xn
  try clear Wn
  try clear Gm
  try clear Fm
  try clear Em
  try clear Dm
  try clear Cm
  try clear AA
  try clear zA
  try clear yA
  try clear xA
  try clear wA
  try clear vA
  try clear uA
  try clear ax
  try clear Zw
  try clear Yw
  try clear Xw
  try clear Ww
  try clear DM
  try clear CM
  try clear yp
  try clear xp
  try clear vp
  try clear qp
  try clear lp
  try clear Wt
  try clear Vt
  try clear Ut
  try clear Tt
  try clear St
  try clear BM
  try clear zM
  try clear Mt
  try clear Lt
  try clear Kt
  try clear Jt
  try clear Ht
  try clear QF
  try clear PF
  try clear mh
  try clear jh
  try clear gh
  try clear fh
  try clear dh
  try clear Pw
  try clear Ow
  try clear Vn
  try clear Un
  try clear Tn
  try clear Sn
  try clear Rn
  try clear Bm
  try clear Am
  try clear zm
  try clear ym
  try clear xm
  try clear cA
  try clear bA
  try clear aA
  try clear Zz
  try clear Yz
  try clear Xz
  try clear Wz
  try clear Iw
  try clear Hw
  try clear Gw
  try clear Fw
  try clear Ew
  try clear BL
  try clear AL
  try clear gp
  try clear ep
  try clear bp
  try clear Zo
  try clear Yo
  try clear nt
  try clear jt
  try clear ct
  try clear bt
  try clear Zs
  try clear zL
  try clear yL
  try clear Ts
  try clear Ss
  try clear Rs
  try clear Qs
  try clear Ns
  try clear JE
  try clear IE
  obtain ⟨kq,GG,rfl,HA,HJ5,oa,za,HB⟩:=hcut;cases kq with
  | zero=>exact absurd HA.out (by simp [jb.j0])
  | succ kj5 =>
   have H:=HA.out;clear HA;simp only [jb.j0] at H;have N2:=ja.mk H;clear H
   go_upto_region 5 with (fail)
   go_cut [62] (fun v62 wc=>∃ (kq:Nat) (cD:Bool),v62 = .bool cD∧ja (jb.j1 kq t103 t104 t105 GG cD Ra La Ja Ia Fa yc Qb Jb Kb ec Gc Tc=some r)∧ja (kq ≤ kj5)∧ja (wc.heap[ya]? = some (.cells #[(.slice Za Ra.length gb),.int .i64 La,.int .i64 Ja,.int .i64 Ia,(.slice Vb Fa.length Lb)] 30 (0,0)))∧ja (wc.heap[Ga]? = some (.cells #[.int .i64 yc,.int .i64 Qb,.int .i64 Jb,.int .i64 Kb,.int .i64 ec,.int .i64 Gc,.string Tc] 65 (0,0)))∧ja (Below w.heap.size w wc))
   case first =>
    have H:=N2.out;clear N2
    by_cases FG:yc=2
    ·rw [if_pos FG] at H;have KB:(yc == 2)=true:=beq_iff_eq.mpr FG;have VW:(yc != 2)=false:=bne_eq_false_iff_eq.mpr FG;clear FG;(first|rw [KB]|(simp only [Yb,Zb];rw [KB])|skip)
     by_cases BC:yc=4
     ·rw [if_pos BC] at H;have NM:(yc == 4)=true:=beq_iff_eq.mpr BC;have UW:(yc != 4)=false:=bne_eq_false_iff_eq.mpr BC;clear BC;have H':=ja.mk H;clear H;have wap:=Cb.out;have Kao:=Db.out;have NF:wc.cell? ⟨Ga,0,none⟩=some (.int .i64 yc):=(ga za.out 0).trans rfl;have MF:wc.cell? ⟨Ga,1,none⟩=some (.int .i64 Qb):=(ga za.out 1).trans rfl;have LF:wc.cell? ⟨Ga,2,none⟩=some (.int .i64 Jb):=(ga za.out 2).trans rfl;have KF:wc.cell? ⟨Ga,3,none⟩=some (.int .i64 Kb):=(ga za.out 3).trans rfl;have JF:wc.cell? ⟨Ga,4,none⟩=some (.int .i64 ec):=(ga za.out 4).trans rfl;have DU:wc.cell? ⟨Ga,5,none⟩=some (.int .i64 Gc):=(ga za.out 5).trans rfl;have CU:wc.cell? ⟨Ga,6,none⟩=some (.string Tc):=(ga za.out 6).trans rfl;have HE:=aa za.out 0;have FE:=aa za.out 1;have EE:=aa za.out 2;have DE:=aa za.out 3;have CE:=aa za.out 4;have rT:=aa za.out 5;have qT:=aa za.out 6;go_wp2
      go_meet
      case rel=>exact ⟨_,(false),(by first|rfl|(simp;done)|(simp [*];done)),H',⟨by have:=HJ5.out;first|omega|exact Nat.le_refl _⟩,⟨by (with_reducible repeat (first|refine Aa ?_ _|refine Da ?_|refine Ba ?_ _));exact oa.out⟩,⟨by (with_reducible repeat (first|refine Aa ?_ _|refine Da ?_|refine Ba ?_ _));exact za.out⟩,⟨by repeat (first|(with_reducible first|exact HB.out|apply qa|apply ia|apply ta|refine ua ?_ Ta.out|refine ua ?_ uc.out)|exact HB.out)⟩⟩
     ·rw [if_neg BC] at H;have NM:(yc == 4)=false:=beq_eq_false_iff_ne.mpr BC;have UW:(yc != 4)=true:=bne_iff_ne.mpr BC;have H':=ja.mk H;clear H;have uap:=Cb.out;have Iao:=Db.out;have GF:wc.cell? ⟨Ga,0,none⟩=some (.int .i64 yc):=(ga za.out 0).trans rfl;have FF:wc.cell? ⟨Ga,1,none⟩=some (.int .i64 Qb):=(ga za.out 1).trans rfl;have EF:wc.cell? ⟨Ga,2,none⟩=some (.int .i64 Jb):=(ga za.out 2).trans rfl;have DF:wc.cell? ⟨Ga,3,none⟩=some (.int .i64 Kb):=(ga za.out 3).trans rfl;have CF:wc.cell? ⟨Ga,4,none⟩=some (.int .i64 ec):=(ga za.out 4).trans rfl;have lM:wc.cell? ⟨Ga,5,none⟩=some (.int .i64 Gc):=(ga za.out 5).trans rfl;have kM:wc.cell? ⟨Ga,6,none⟩=some (.string Tc):=(ga za.out 6).trans rfl;have AE:=aa za.out 0;have zE:=aa za.out 1;have yE:=aa za.out 2;have xE:=aa za.out 3;have wE:=aa za.out 4;have kL:=aa za.out 5;have jL:=aa za.out 6;go_wp2
      go_meet
      case rel=>exact ⟨_,((ec != 0)),(by first|rfl|(simp;done)|(simp [*];done)),H',⟨by have:=HJ5.out;first|omega|exact Nat.le_refl _⟩,⟨by (with_reducible repeat (first|refine Aa ?_ _|refine Da ?_|refine Ba ?_ _));exact oa.out⟩,⟨by (with_reducible repeat (first|refine Aa ?_ _|refine Da ?_|refine Ba ?_ _));exact za.out⟩,⟨by repeat (first|(with_reducible first|exact HB.out|apply qa|apply ia|apply ta|refine ua ?_ Ta.out|refine ua ?_ uc.out)|exact HB.out)⟩⟩
    ·rw [if_neg FG] at H;have KB:(yc == 2)=false:=beq_eq_false_iff_ne.mpr FG;have VW:(yc != 2)=true:=bne_iff_ne.mpr FG;(first|rw [KB]|(simp only [Yb,Zb];rw [KB])|skip)
     by_cases EG:Tc.toList=([]:List UInt8)
     ·rw [if_pos EG] at H;have SQ:(Tc.toList == ([]:List UInt8))=true:=beq_iff_eq.mpr EG;have RW:(Tc.toList != ([]:List UInt8))=false:=bne_eq_false_iff_eq.mpr EG;clear EG
      by_cases QW:yc=4
      ·rw [if_pos QW] at H;have PW:(yc == 4)=true:=beq_iff_eq.mpr QW;have OW:(yc != 4)=false:=bne_eq_false_iff_eq.mpr QW;clear QW;have H':=ja.mk H;clear H;have n5:=Cb.out;have Q4:=Db.out;have BF:wc.cell? ⟨Ga,0,none⟩=some (.int .i64 yc):=(ga za.out 0).trans rfl;have AF:wc.cell? ⟨Ga,1,none⟩=some (.int .i64 Qb):=(ga za.out 1).trans rfl;have zF:wc.cell? ⟨Ga,2,none⟩=some (.int .i64 Jb):=(ga za.out 2).trans rfl;have yF:wc.cell? ⟨Ga,3,none⟩=some (.int .i64 Kb):=(ga za.out 3).trans rfl;have xF:wc.cell? ⟨Ga,4,none⟩=some (.int .i64 ec):=(ga za.out 4).trans rfl;have YL:wc.cell? ⟨Ga,5,none⟩=some (.int .i64 Gc):=(ga za.out 5).trans rfl;have XL:wc.cell? ⟨Ga,6,none⟩=some (.string Tc):=(ga za.out 6).trans rfl;have vE:=aa za.out 0;have uE:=aa za.out 1;have sE:=aa za.out 2;have rE:=aa za.out 3;have qE:=aa za.out 4;have WK:=aa za.out 5;have VK:=aa za.out 6;go_wp2
       go_meet
       case rel=>exact ⟨_,(false),(by first|rfl|(simp;done)|(simp [*];done)),H',⟨by have:=HJ5.out;first|omega|exact Nat.le_refl _⟩,⟨by (with_reducible repeat (first|refine Aa ?_ _|refine Da ?_|refine Ba ?_ _));exact oa.out⟩,⟨by (with_reducible repeat (first|refine Aa ?_ _|refine Da ?_|refine Ba ?_ _));exact za.out⟩,⟨by repeat (first|(with_reducible first|exact HB.out|apply qa|apply ia|apply ta|refine ua ?_ Ta.out|refine ua ?_ uc.out)|exact HB.out)⟩⟩
      ·rw [if_neg QW] at H;have PW:(yc == 4)=false:=beq_eq_false_iff_ne.mpr QW;have OW:(yc != 4)=true:=bne_iff_ne.mpr QW;have H':=ja.mk H;clear H;have m5:=Cb.out;have P4:=Db.out;have Vw:wc.cell? ⟨Ga,0,none⟩=some (.int .i64 yc):=(ga za.out 0).trans rfl;have Uw:wc.cell? ⟨Ga,1,none⟩=some (.int .i64 Qb):=(ga za.out 1).trans rfl;have Tw:wc.cell? ⟨Ga,2,none⟩=some (.int .i64 Jb):=(ga za.out 2).trans rfl;have Sw:wc.cell? ⟨Ga,3,none⟩=some (.int .i64 Kb):=(ga za.out 3).trans rfl;have Rw:wc.cell? ⟨Ga,4,none⟩=some (.int .i64 ec):=(ga za.out 4).trans rfl;have WL:wc.cell? ⟨Ga,5,none⟩=some (.int .i64 Gc):=(ga za.out 5).trans rfl;have VL:wc.cell? ⟨Ga,6,none⟩=some (.string Tc):=(ga za.out 6).trans rfl;have Dw:=aa za.out 0;have Cw:=aa za.out 1;have Bw:=aa za.out 2;have Aw:=aa za.out 3;have zw:=aa za.out 4;have UK:=aa za.out 5;have TK:=aa za.out 6;go_wp2
       go_meet
       case rel=>exact ⟨_,((ec != 0)),(by first|rfl|(simp;done)|(simp [*];done)),H',⟨by have:=HJ5.out;first|omega|exact Nat.le_refl _⟩,⟨by (with_reducible repeat (first|refine Aa ?_ _|refine Da ?_|refine Ba ?_ _));exact oa.out⟩,⟨by (with_reducible repeat (first|refine Aa ?_ _|refine Da ?_|refine Ba ?_ _));exact za.out⟩,⟨by repeat (first|(with_reducible first|exact HB.out|apply qa|apply ia|apply ta|refine ua ?_ Ta.out|refine ua ?_ uc.out)|exact HB.out)⟩⟩
     ·rw [if_neg EG] at H;have SQ:(Tc.toList == ([]:List UInt8))=false:=beq_eq_false_iff_ne.mpr EG;have RW:(Tc.toList != ([]:List UInt8))=true:=bne_iff_ne.mpr EG;have H':=ja.mk H;clear H;have j5:=Cb.out;have O4:=Db.out;have qF:wc.cell? ⟨Ga,0,none⟩=some (.int .i64 yc):=(ga za.out 0).trans rfl;have pF:wc.cell? ⟨Ga,1,none⟩=some (.int .i64 Qb):=(ga za.out 1).trans rfl;have oF:wc.cell? ⟨Ga,2,none⟩=some (.int .i64 Jb):=(ga za.out 2).trans rfl;have nF:wc.cell? ⟨Ga,3,none⟩=some (.int .i64 Kb):=(ga za.out 3).trans rfl;have mF:wc.cell? ⟨Ga,4,none⟩=some (.int .i64 ec):=(ga za.out 4).trans rfl;have PL:wc.cell? ⟨Ga,5,none⟩=some (.int .i64 Gc):=(ga za.out 5).trans rfl;have OL:wc.cell? ⟨Ga,6,none⟩=some (.string Tc):=(ga za.out 6).trans rfl;have kE:=aa za.out 0;have jE:=aa za.out 1;have iE:=aa za.out 2;have gE:=aa za.out 3;have fE:=aa za.out 4;have NK:=aa za.out 5;have MK:=aa za.out 6;go_wp2
      go_meet
      case rel=>exact ⟨_,(true),(by first|rfl|(simp;done)|(simp [*];done)),H',⟨by have:=HJ5.out;first|omega|exact Nat.le_refl _⟩,⟨by (with_reducible repeat (first|refine Aa ?_ _|refine Da ?_|refine Ba ?_ _));exact oa.out⟩,⟨by (with_reducible repeat (first|refine Aa ?_ _|refine Da ?_|refine Ba ?_ _));exact za.out⟩,⟨by repeat (first|(with_reducible first|exact HB.out|apply qa|apply ia|apply ta|refine ua ?_ Ta.out|refine ua ?_ uc.out)|exact HB.out)⟩⟩
   case rest =>
    clear N2
    try clear c1
    try clear c2
    try clear p2
    try clear c3
    try clear c4
    try clear c5
    try clear p6
    try clear c9
    try clear Ky
    try clear kC
    try clear CA
    try clear Zp
    try clear Jo
    try clear UQ
    try clear Xm
    try clear zx
    try clear jO
    try clear JH
    try clear FG
    try clear KB
    try clear VW
    try clear BC
    try clear NM
    try clear UW
    try clear TW
    try clear yO
    try clear EG
    try clear SQ
    try clear RW
    try clear QW
    try clear PW
    try clear OW
    try clear c37
    try clear VR
    try clear c41
    try clear uh
    try clear th
    try clear qh
    try clear oh
    try clear nh
    try clear sx
    try clear qx
    try clear eo
    try clear Zn
    try clear Yn
    try clear Xn
    try clear Wn
    try clear Gm
    try clear Fm
    try clear Em
    try clear Dm
    try clear Cm
    try clear AA
    try clear zA
    try clear yA
    try clear xA
    try clear wA
    try clear vA
    try clear uA
    try clear ax
    try clear Zw
    try clear Yw
    try clear Xw
    try clear Ww
    try clear DM
    try clear CM
    try clear yp
    try clear xp
    try clear vp
    try clear qp
    try clear lp
    try clear Wt
    try clear Vt
    try clear Ut
    try clear Tt
    try clear St
    try clear BM
    try clear zM
    try clear Mt
    try clear Lt
    try clear Kt
    try clear Jt
    try clear Ht
    try clear QF
    try clear PF
    try clear NF
    try clear MF
    try clear LF
    try clear KF
    try clear JF
    try clear DU
    try clear CU
    try clear GF
    try clear FF
    try clear EF
    try clear DF
    try clear CF
    try clear lM
    try clear kM
    try clear BF
    try clear AF
    try clear zF
    try clear yF
    try clear xF
    try clear YL
    try clear XL
    try clear Vw
    try clear Uw
    try clear Tw
    try clear Sw
    try clear Rw
    try clear WL
    try clear VL
    try clear qF
    try clear pF
    try clear oF
    try clear nF
    try clear mF
    try clear PL
    try clear OL
    try clear mh
    try clear jh
    try clear gh
    try clear fh
    try clear dh
    try clear Pw
    try clear Ow
    try clear Vn
    try clear Un
    try clear Tn
    try clear Sn
    try clear Rn
    try clear Bm
    try clear Am
    try clear zm
    try clear ym
    try clear xm
    try clear cA
    try clear bA
    try clear aA
    try clear Zz
    try clear Yz
    try clear Xz
    try clear Wz
    try clear Iw
    try clear Hw
    try clear Gw
    try clear Fw
    try clear Ew
    try clear BL
    try clear AL
    try clear gp
    try clear ep
    try clear bp
    try clear Zo
    try clear Yo
    try clear nt
    try clear jt
    try clear ct
    try clear bt
    try clear Zs
    try clear zL
    try clear yL
    try clear Ts
    try clear Ss
    try clear Rs
    try clear Qs
    try clear Ns
    try clear JE
    try clear IE
    try clear HE
    try clear FE
    try clear EE
    try clear DE
    try clear CE
    try clear rT
    try clear qT
    try clear AE
    try clear zE
    try clear yE
    try clear xE
    try clear wE
    try clear kL
    try clear jL
    try clear vE
    try clear uE
    try clear sE
    try clear rE
    try clear qE
    try clear WK
    try clear VK
    try clear Dw
    try clear Cw
    try clear Bw
    try clear Aw
    try clear zw
    try clear UK
    try clear TK
    try clear kE
    try clear jE
    try clear iE
    try clear gE
    try clear fE
    try clear NK
    try clear MK
    try clear p2
    try clear p6
    obtain ⟨kq,cD,rfl,HA,Pat,oa,za,HB⟩:=hcut;cases kq with
    | zero=>exact absurd HA.out (by simp [jb.j1])
    | succ EN =>
     have H:=HA.out;clear HA;simp only [jb.j1] at H
     by_cases c43:cD=true
     ·subst c43;have H1:(some false)=some r:=by rw [if_pos rfl] at H;exact H
      clear H;have H:=H1;clear H1;obtain rfl:=Option.some.inj H;go_wp2;go_ret;exact ⟨by first|rfl|(simp [Na,Ma] <;> rfl)|(simp [*,Na,Ma] <;> rfl),by repeat (first|(with_reducible first|exact HB.out|apply qa|apply ia|apply ta|refine ua ?_ Ta.out|refine ua ?_ uc.out)|exact HB.out)⟩
     ·replace c43:=Bool.eq_false_iff.mpr c43;subst c43;have H1:(if yc=0 then (if t103=true then (if Jb=0 then (some (Kb == 0)) else (some false)) else (some false)) else (if yc=1 then (if t103=true then (if t104=true then (if Kb=0 then (some (Gc == 0)) else (some false)) else (some false)) else (some false)) else (if yc=2 then (if t103=true then (if t104=true then (if t105=true then (if Gc=0 then ((Ee.f EN (([(⟨#[61,61]⟩:ByteArray),(⟨#[60]⟩:ByteArray),(⟨#[38]⟩:ByteArray),(⟨#[43]⟩:ByteArray),(⟨#[45]⟩:ByteArray),(⟨#[42]⟩:ByteArray)]:List ByteArray)) Tc).bind fun t111=>(some t111)) else (some false)) else (some false)) else (some false)) else (some false)) else (if yc=3 then (if t103=true then (some GG) else (some false)) else (if yc=4 then (if Qb=0 then (if GG=true then ((Xa.f ec 0 (wrap64 (Ia - 1))).bind fun t112=>(some t112)) else (some false)) else (some false)) else (if yc=5 then (if t103=true then (if Jb=0 then (if Kb=0 then (some (Gc == 0)) else (some false)) else (some false)) else (some false)) else (if yc=6 then (if Qb=0 then (if t104=true then (if Kb=0 then (some (Gc == 0)) else (some false)) else (some false)) else (some false)) else (some false))))))))=some r:=by rw [if_neg (show ¬ (false=true) by decide)] at H;exact H
      clear H;have H:=H1;clear H1
      by_cases sJ:yc=0
      ·rw [if_pos sJ] at H;have RQ:(yc == 0)=true:=beq_iff_eq.mpr sJ;have OQ:(yc != 0)=false:=bne_eq_false_iff_eq.mpr sJ;clear sJ
       by_cases sV:t103=true
       ·subst sV;have H1:(if Jb=0 then (some (Kb == 0)) else (some false))=some r:=by rw [if_pos rfl] at H;exact H
        clear H;have H:=H1;clear H1
        by_cases rJ:Jb=0
        ·rw [if_pos rJ] at H;have NQ:(Jb == 0)=true:=beq_iff_eq.mpr rJ;have MQ:(Jb != 0)=false:=bne_eq_false_iff_eq.mpr rJ;clear rJ;obtain rfl:=Option.some.inj H;have pW:=Cb.out;have nW:=Db.out;have fF:wc.cell? ⟨Ga,0,none⟩=some (.int .i64 yc):=(ga za.out 0).trans rfl;have eF:wc.cell? ⟨Ga,1,none⟩=some (.int .i64 Qb):=(ga za.out 1).trans rfl;have dF:wc.cell? ⟨Ga,2,none⟩=some (.int .i64 Jb):=(ga za.out 2).trans rfl;have cF:wc.cell? ⟨Ga,3,none⟩=some (.int .i64 Kb):=(ga za.out 3).trans rfl;have bF:wc.cell? ⟨Ga,4,none⟩=some (.int .i64 ec):=(ga za.out 4).trans rfl;have uU:wc.cell? ⟨Ga,5,none⟩=some (.int .i64 Gc):=(ga za.out 5).trans rfl;have tU:wc.cell? ⟨Ga,6,none⟩=some (.string Tc):=(ga za.out 6).trans rfl;have YD:=aa za.out 0;have XD:=aa za.out 1;have WD:=aa za.out 2;have VD:=aa za.out 3;have UD:=aa za.out 4;have iT:=aa za.out 5;have gT:=aa za.out 6;go_wp2;go_ret;exact ⟨by first|rfl|(simp [Na,Ma] <;> rfl)|(simp [*,Na,Ma] <;> rfl),by repeat (first|(with_reducible first|exact HB.out|apply qa|apply ia|apply ta|refine ua ?_ Ta.out|refine ua ?_ uc.out)|exact HB.out)⟩
        ·rw [if_neg rJ] at H;have NQ:(Jb == 0)=false:=beq_eq_false_iff_ne.mpr rJ;have MQ:(Jb != 0)=true:=bne_iff_ne.mpr rJ;obtain rfl:=Option.some.inj H;have oap:=Cb.out;have Dao:=Db.out;have nU:wc.cell? ⟨Ga,0,none⟩=some (.int .i64 yc):=(ga za.out 0).trans rfl;have mU:wc.cell? ⟨Ga,1,none⟩=some (.int .i64 Qb):=(ga za.out 1).trans rfl;have lU:wc.cell? ⟨Ga,2,none⟩=some (.int .i64 Jb):=(ga za.out 2).trans rfl;have kU:wc.cell? ⟨Ga,3,none⟩=some (.int .i64 Kb):=(ga za.out 3).trans rfl;have jU:wc.cell? ⟨Ga,4,none⟩=some (.int .i64 ec):=(ga za.out 4).trans rfl;have hai:wc.cell? ⟨Ga,5,none⟩=some (.int .i64 Gc):=(ga za.out 5).trans rfl;have gai:wc.cell? ⟨Ga,6,none⟩=some (.string Tc):=(ga za.out 6).trans rfl;have ZS:=aa za.out 0;have YS:=aa za.out 1;have XS:=aa za.out 2;have WS:=aa za.out 3;have VS:=aa za.out 4;have Xae:=aa za.out 5;have Wae:=aa za.out 6;go_wp2;go_ret;exact ⟨by first|rfl|(simp [Na,Ma] <;> rfl)|(simp [*,Na,Ma] <;> rfl),by repeat (first|(with_reducible first|exact HB.out|apply qa|apply ia|apply ta|refine ua ?_ Ta.out|refine ua ?_ uc.out)|exact HB.out)⟩
       ·replace sV:=Bool.eq_false_iff.mpr sV;subst sV;have H1:(some false)=some r:=by rw [if_neg (show ¬ (false=true) by decide)] at H;exact H
        clear H;have H:=H1;clear H1;obtain rfl:=Option.some.inj H;have b5:=Cb.out;have N4:=Db.out;have XE:wc.cell? ⟨Ga,0,none⟩=some (.int .i64 yc):=(ga za.out 0).trans rfl;have WE:wc.cell? ⟨Ga,1,none⟩=some (.int .i64 Qb):=(ga za.out 1).trans rfl;have VE:wc.cell? ⟨Ga,2,none⟩=some (.int .i64 Jb):=(ga za.out 2).trans rfl;have UE:wc.cell? ⟨Ga,3,none⟩=some (.int .i64 Kb):=(ga za.out 3).trans rfl;have SE:wc.cell? ⟨Ga,4,none⟩=some (.int .i64 ec):=(ga za.out 4).trans rfl;have aai:wc.cell? ⟨Ga,5,none⟩=some (.int .i64 Gc):=(ga za.out 5).trans rfl;have Zah:wc.cell? ⟨Ga,6,none⟩=some (.string Tc):=(ga za.out 6).trans rfl;have RD:=aa za.out 0;have QD:=aa za.out 1;have PD:=aa za.out 2;have OD:=aa za.out 3;have ND:=aa za.out 4;have Qae:=aa za.out 5;have Pae:=aa za.out 6;go_wp2;go_ret;exact ⟨by first|rfl|(simp [Na,Ma] <;> rfl)|(simp [*,Na,Ma] <;> rfl),by repeat (first|(with_reducible first|exact HB.out|apply qa|apply ia|apply ta|refine ua ?_ Ta.out|refine ua ?_ uc.out)|exact HB.out)⟩
      ·rw [if_neg sJ] at H;have RQ:(yc == 0)=false:=beq_eq_false_iff_ne.mpr sJ;have OQ:(yc != 0)=true:=bne_iff_ne.mpr sJ
       by_cases m0:yc=1
       ·rw [if_pos m0] at H;have eaa:(yc == 1)=true:=beq_iff_eq.mpr m0;have daa:(yc != 1)=false:=bne_eq_false_iff_eq.mpr m0;clear m0
        by_cases c54:t103=true
        ·subst c54;have H1:(if t104=true then (if Kb=0 then (some (Gc == 0)) else (some false)) else (some false))=some r:=by rw [if_pos rfl] at H;exact H
         clear H;have H:=H1;clear H1
         by_cases c55:t104=true
         ·subst c55;have H1:(if Kb=0 then (some (Gc == 0)) else (some false))=some r:=by rw [if_pos rfl] at H;exact H
          clear H;have H:=H1;clear H1
          by_cases ZZ:Kb=0
          ·rw [if_pos ZZ] at H;have caa:(Kb == 0)=true:=beq_iff_eq.mpr ZZ;have baa:(Kb != 0)=false:=bne_eq_false_iff_eq.mpr ZZ;clear ZZ;obtain rfl:=Option.some.inj H;have jap:=Cb.out;have zao:=Db.out;have iU:wc.cell? ⟨Ga,0,none⟩=some (.int .i64 yc):=(ga za.out 0).trans rfl;have hU:wc.cell? ⟨Ga,1,none⟩=some (.int .i64 Qb):=(ga za.out 1).trans rfl;have gU:wc.cell? ⟨Ga,2,none⟩=some (.int .i64 Jb):=(ga za.out 2).trans rfl;have fU:wc.cell? ⟨Ga,3,none⟩=some (.int .i64 Kb):=(ga za.out 3).trans rfl;have eU:wc.cell? ⟨Ga,4,none⟩=some (.int .i64 ec):=(ga za.out 4).trans rfl;have Eah:wc.cell? ⟨Ga,5,none⟩=some (.int .i64 Gc):=(ga za.out 5).trans rfl;have Dah:wc.cell? ⟨Ga,6,none⟩=some (.string Tc):=(ga za.out 6).trans rfl;have US:=aa za.out 0;have TS:=aa za.out 1;have SS:=aa za.out 2;have RS:=aa za.out 3;have QS:=aa za.out 4;have uae:=aa za.out 5;have tae:=aa za.out 6;go_wp2;go_ret;exact ⟨by first|rfl|(simp [Na,Ma] <;> rfl)|(simp [*,Na,Ma] <;> rfl),by repeat (first|(with_reducible first|exact HB.out|apply qa|apply ia|apply ta|refine ua ?_ Ta.out|refine ua ?_ uc.out)|exact HB.out)⟩
          ·rw [if_neg ZZ] at H;have caa:(Kb == 0)=false:=beq_eq_false_iff_ne.mpr ZZ;have baa:(Kb != 0)=true:=bne_iff_ne.mpr ZZ;obtain rfl:=Option.some.inj H;have iap:=Cb.out;have yao:=Db.out;have Cah:wc.cell? ⟨Ga,0,none⟩=some (.int .i64 yc):=(ga za.out 0).trans rfl;have Bah:wc.cell? ⟨Ga,1,none⟩=some (.int .i64 Qb):=(ga za.out 1).trans rfl;have Aah:wc.cell? ⟨Ga,2,none⟩=some (.int .i64 Jb):=(ga za.out 2).trans rfl;have zah:wc.cell? ⟨Ga,3,none⟩=some (.int .i64 Kb):=(ga za.out 3).trans rfl;have yah:wc.cell? ⟨Ga,4,none⟩=some (.int .i64 ec):=(ga za.out 4).trans rfl;have xah:wc.cell? ⟨Ga,5,none⟩=some (.int .i64 Gc):=(ga za.out 5).trans rfl;have wah:wc.cell? ⟨Ga,6,none⟩=some (.string Tc):=(ga za.out 6).trans rfl;have sae:=aa za.out 0;have rae:=aa za.out 1;have qae:=aa za.out 2;have pae:=aa za.out 3;have oae:=aa za.out 4;have nae:=aa za.out 5;have mae:=aa za.out 6;go_wp2;go_ret;exact ⟨by first|rfl|(simp [Na,Ma] <;> rfl)|(simp [*,Na,Ma] <;> rfl),by repeat (first|(with_reducible first|exact HB.out|apply qa|apply ia|apply ta|refine ua ?_ Ta.out|refine ua ?_ uc.out)|exact HB.out)⟩
         ·replace c55:=Bool.eq_false_iff.mpr c55;subst c55;have H1:(some false)=some r:=by rw [if_neg (show ¬ (false=true) by decide)] at H;exact H
          clear H;have H:=H1;clear H1;obtain rfl:=Option.some.inj H;have eap:=Cb.out;have xao:=Db.out;have vah:wc.cell? ⟨Ga,0,none⟩=some (.int .i64 yc):=(ga za.out 0).trans rfl;have uah:wc.cell? ⟨Ga,1,none⟩=some (.int .i64 Qb):=(ga za.out 1).trans rfl;have tah:wc.cell? ⟨Ga,2,none⟩=some (.int .i64 Jb):=(ga za.out 2).trans rfl;have sah:wc.cell? ⟨Ga,3,none⟩=some (.int .i64 Kb):=(ga za.out 3).trans rfl;have rah:wc.cell? ⟨Ga,4,none⟩=some (.int .i64 ec):=(ga za.out 4).trans rfl;have qah:wc.cell? ⟨Ga,5,none⟩=some (.int .i64 Gc):=(ga za.out 5).trans rfl;have pah:wc.cell? ⟨Ga,6,none⟩=some (.string Tc):=(ga za.out 6).trans rfl;have lae:=aa za.out 0;have kae:=aa za.out 1;have jae:=aa za.out 2;have iae:=aa za.out 3;have hae:=aa za.out 4;have gae:=aa za.out 5;have fae:=aa za.out 6;go_wp2;go_ret;exact ⟨by first|rfl|(simp [Na,Ma] <;> rfl)|(simp [*,Na,Ma] <;> rfl),by repeat (first|(with_reducible first|exact HB.out|apply qa|apply ia|apply ta|refine ua ?_ Ta.out|refine ua ?_ uc.out)|exact HB.out)⟩
        ·replace c54:=Bool.eq_false_iff.mpr c54;subst c54;have H1:(some false)=some r:=by rw [if_neg (show ¬ (false=true) by decide)] at H;exact H
         clear H;have H:=H1;clear H1;obtain rfl:=Option.some.inj H;have dap:=Cb.out;have wao:=Db.out;have oah:wc.cell? ⟨Ga,0,none⟩=some (.int .i64 yc):=(ga za.out 0).trans rfl;have nah:wc.cell? ⟨Ga,1,none⟩=some (.int .i64 Qb):=(ga za.out 1).trans rfl;have mah:wc.cell? ⟨Ga,2,none⟩=some (.int .i64 Jb):=(ga za.out 2).trans rfl;have lah:wc.cell? ⟨Ga,3,none⟩=some (.int .i64 Kb):=(ga za.out 3).trans rfl;have kah:wc.cell? ⟨Ga,4,none⟩=some (.int .i64 ec):=(ga za.out 4).trans rfl;have jah:wc.cell? ⟨Ga,5,none⟩=some (.int .i64 Gc):=(ga za.out 5).trans rfl;have iah:wc.cell? ⟨Ga,6,none⟩=some (.string Tc):=(ga za.out 6).trans rfl;have eae:=aa za.out 0;have dae:=aa za.out 1;have cae:=aa za.out 2;have bae:=aa za.out 3;have aae:=aa za.out 4;have Zad:=aa za.out 5;have Yad:=aa za.out 6;go_wp2;go_ret;exact ⟨by first|rfl|(simp [Na,Ma] <;> rfl)|(simp [*,Na,Ma] <;> rfl),by repeat (first|(with_reducible first|exact HB.out|apply qa|apply ia|apply ta|refine ua ?_ Ta.out|refine ua ?_ uc.out)|exact HB.out)⟩
       ·rw [if_neg m0] at H;have eaa:(yc == 1)=false:=beq_eq_false_iff_ne.mpr m0;have daa:(yc != 1)=true:=bne_iff_ne.mpr m0
        by_cases YZ:yc=2
        ·rw [if_pos YZ] at H;have aaa:(yc == 2)=true:=beq_iff_eq.mpr YZ;have Z_:(yc != 2)=false:=bne_eq_false_iff_eq.mpr YZ;clear YZ
         by_cases c66:t103=true
         ·subst c66;have H1:(if t104=true then (if t105=true then (if Gc=0 then ((Ee.f EN (([(⟨#[61,61]⟩:ByteArray),(⟨#[60]⟩:ByteArray),(⟨#[38]⟩:ByteArray),(⟨#[43]⟩:ByteArray),(⟨#[45]⟩:ByteArray),(⟨#[42]⟩:ByteArray)]:List ByteArray)) Tc).bind fun t111=>(some t111)) else (some false)) else (some false)) else (some false))=some r:=by rw [if_pos rfl] at H;exact H
          clear H;have H:=H1;clear H1
          by_cases c67:t104=true
          ·subst c67;have H1:(if t105=true then (if Gc=0 then ((Ee.f EN (([(⟨#[61,61]⟩:ByteArray),(⟨#[60]⟩:ByteArray),(⟨#[38]⟩:ByteArray),(⟨#[43]⟩:ByteArray),(⟨#[45]⟩:ByteArray),(⟨#[42]⟩:ByteArray)]:List ByteArray)) Tc).bind fun t111=>(some t111)) else (some false)) else (some false))=some r:=by rw [if_pos rfl] at H;exact H
           clear H;have H:=H1;clear H1
           by_cases c68:t105=true
           ·subst c68;have H1:(if Gc=0 then ((Ee.f EN (([(⟨#[61,61]⟩:ByteArray),(⟨#[60]⟩:ByteArray),(⟨#[38]⟩:ByteArray),(⟨#[43]⟩:ByteArray),(⟨#[45]⟩:ByteArray),(⟨#[42]⟩:ByteArray)]:List ByteArray)) Tc).bind fun t111=>(some t111)) else (some false))=some r:=by rw [if_pos rfl] at H;exact H
            clear H;have H:=H1;clear H1
            by_cases XZ:Gc=0
            ·rw [if_pos XZ] at H;have Y_:(Gc == 0)=true:=beq_iff_eq.mpr XZ;have X_:(Gc != 0)=false:=bne_eq_false_iff_eq.mpr XZ;clear XZ;obtain ⟨cg,Pe⟩:∃ y_:List ByteArray,y_=(([(⟨#[61,61]⟩:ByteArray),(⟨#[60]⟩:ByteArray),(⟨#[38]⟩:ByteArray),(⟨#[43]⟩:ByteArray),(⟨#[45]⟩:ByteArray),(⟨#[42]⟩:ByteArray)]:List ByteArray)):=⟨_,rfl⟩;replace H:((Ee.f EN cg Tc).bind fun t111=>(some t111))=some r:=by first|(rw [Pe];with_reducible exact H)|(have Gd:=(Option.bind_some _ _).symm.trans H;rw [Pe];with_reducible exact Gd)|(have Gd:=(Option.bind_some _ _).symm.trans H;with_reducible exact Gd)|with_reducible exact H|(rw [Pe];exact H)|exact H
             have Jh:=ja.mk Pe;clear Pe;replace H:=Option.bind_eq_some_iff.mp H;obtain ⟨t111,bac,H⟩:=H;replace H:(some t111)=some r:=H;have uG:=ja.mk bac;clear bac;obtain rfl:=Option.some.inj H;have bap:=Cb.out;have vao:=Db.out;have hah:wc.cell? ⟨Ga,0,none⟩=some (.int .i64 yc):=(ga za.out 0).trans rfl;have gah:wc.cell? ⟨Ga,1,none⟩=some (.int .i64 Qb):=(ga za.out 1).trans rfl;have fah:wc.cell? ⟨Ga,2,none⟩=some (.int .i64 Jb):=(ga za.out 2).trans rfl;have eah:wc.cell? ⟨Ga,3,none⟩=some (.int .i64 Kb):=(ga za.out 3).trans rfl;have dah:wc.cell? ⟨Ga,4,none⟩=some (.int .i64 ec):=(ga za.out 4).trans rfl;have cah:wc.cell? ⟨Ga,5,none⟩=some (.int .i64 Gc):=(ga za.out 5).trans rfl;have bah:wc.cell? ⟨Ga,6,none⟩=some (.string Tc):=(ga za.out 6).trans rfl;have Xad:=aa za.out 0;have Wad:=aa za.out 1;have Vad:=aa za.out 2;have Uad:=aa za.out 3;have Tad:=aa za.out 4;have Sad:=aa za.out 5;have Rad:=aa za.out 6;go_wp2_with (first|((with_reducible refine xb (N:=109) rfl ?_);(try (refine ug (by rfl) ?_;dsimp only));refine Kd.ni Kd.string _ 9 ?hg (N:=109) ?hd (xs:=([(⟨#[61,61]⟩:ByteArray),(⟨#[60]⟩:ByteArray),(⟨#[38]⟩:ByteArray),(⟨#[43]⟩:ByteArray),(⟨#[45]⟩:ByteArray),(⟨#[42]⟩:ByteArray)]:List ByteArray)) (inner:=[.string (⟨#[61,61]⟩:ByteArray),.string (⟨#[60]⟩:ByteArray),.string (⟨#[38]⟩:ByteArray),.string (⟨#[43]⟩:ByteArray),.string (⟨#[45]⟩:ByteArray),.string (⟨#[42]⟩:ByteArray)]) (ok:=fun _=>True) (Lh:=fun _=>True) ?hr ?hp (fun _ hk=>hk) trivial (Below.refl _ _) (Nat.le_refl _) (by simp) ?_;(case hd=>rfl);(case hg=>rfl);(case hr=>first|(go_simp;done)|(go_simp;rfl));(case hp=>exact (td.one (show Kd.M Kd.string _ _ _ (⟨#[61,61]⟩:ByteArray) [.string (⟨#[61,61]⟩:ByteArray)] from rfl) (td.one (show Kd.M Kd.string _ _ _ (⟨#[60]⟩:ByteArray) [.string (⟨#[60]⟩:ByteArray)] from rfl) (td.one (show Kd.M Kd.string _ _ _ (⟨#[38]⟩:ByteArray) [.string (⟨#[38]⟩:ByteArray)] from rfl) (td.one (show Kd.M Kd.string _ _ _ (⟨#[43]⟩:ByteArray) [.string (⟨#[43]⟩:ByteArray)] from rfl) (td.one (show Kd.M Kd.string _ _ _ (⟨#[45]⟩:ByteArray) [.string (⟨#[45]⟩:ByteArray)] from rfl) (td.one (show Kd.M Kd.string _ _ _ (⟨#[42]⟩:ByteArray) [.string (⟨#[42]⟩:ByteArray)] from rfl) (td.none _ _))))))));intro RA bY yP hb om Le;clear om Le;(first|rw [← Jh.out] at yP|(simp only [Int.reduceToNat] at yP;rw [← Jh.out] at yP));have Bb:=ja.mk (Kd.Dd yP (Ka (by repeat (first|(with_reducible first|exact HB.out|apply qa|apply ia|apply ta|refine ua ?_ Ta.out|refine ua ?_ uc.out)|exact HB.out))));have Gb:=ja.mk (Va (g:=ya) (o:=.cells #[.slice Za Ra.length gb,.int .i64 La,.int .i64 Ja,.int .i64 Ia,.slice Vb Fa.length Lb] 30 (0,0)) (by (with_reducible repeat (first|refine Aa ?_ _|refine Da ?_|refine Ba ?_ _));exact oa.out) hb);have Nb:=ja.mk (Va (g:=Ga) (o:=.cells #[.int .i64 yc,.int .i64 Qb,.int .i64 Jb,.int .i64 Kb,.int .i64 ec,.int .i64 Gc,.string Tc] 65 (0,0)) (by (with_reducible repeat (first|refine Aa ?_ _|refine Da ?_|refine Ba ?_ _));exact za.out) hb);have Dc:=ja.mk (Qa (by repeat (first|(with_reducible first|exact HB.out|apply qa|apply ia|apply ta|refine ua ?_ Ta.out|refine ua ?_ uc.out)|exact HB.out)) hb);clear oa za HB;have wg:=Bb;have oa:=Gb;have za:=Nb;have HB:=Dc;clear Bb Gb Nb Dc hb yP;have aah:bY.cell? ⟨Ga,0,none⟩=some (.int .i64 yc):=(ga za.out 0).trans rfl;have Zag:bY.cell? ⟨Ga,1,none⟩=some (.int .i64 Qb):=(ga za.out 1).trans rfl;have Yag:bY.cell? ⟨Ga,2,none⟩=some (.int .i64 Jb):=(ga za.out 2).trans rfl;have Xag:bY.cell? ⟨Ga,3,none⟩=some (.int .i64 Kb):=(ga za.out 3).trans rfl;have Wag:bY.cell? ⟨Ga,4,none⟩=some (.int .i64 ec):=(ga za.out 4).trans rfl;have Vag:bY.cell? ⟨Ga,5,none⟩=some (.int .i64 Gc):=(ga za.out 5).trans rfl;have Uag:bY.cell? ⟨Ga,6,none⟩=some (.string Tc):=(ga za.out 6).trans rfl;have Qad:=aa za.out 0;have Pad:=aa za.out 1;have Oad:=aa za.out 2;have Nad:=aa za.out 3;have Mad:=aa za.out 4;have Lad:=aa za.out 5;have Kad:=aa za.out 6;obtain ⟨kau,Qas,Cal⟩:=Kd.Ud wg.out;subst Cal)|(go_at_call 113;(with_reducible refine (Ee.calls EN _ _ cg Tc t111 _ ?Jc ?Ic uG.out).mono ?_);(case Jc=>repeat (first|exact (Kd.dc wg.out).2.2|(with_reducible refine Kd.Tb ?_ _)|(with_reducible refine Kd.Sb ?_ _)|(with_reducible refine Kd.qc ?_)));(case Ic=>exact (Kd.dc wg.out).2.1);rintro e w' ⟨rfl,⟨nd,rfl⟩⟩));go_ret;exact ⟨by first|rfl|(simp [Na,Ma] <;> rfl)|(simp [*,Na,Ma] <;> rfl),by repeat (first|(with_reducible first|exact HB.out|apply qa|apply ia|apply ta|refine ua ?_ Ta.out|refine ua ?_ uc.out)|exact HB.out)⟩
            ·rw [if_neg XZ] at H;have Y_:(Gc == 0)=false:=beq_eq_false_iff_ne.mpr XZ;have X_:(Gc != 0)=true:=bne_iff_ne.mpr XZ;obtain rfl:=Option.some.inj H;have aap:=Cb.out;have uao:=Db.out;have Sag:wc.cell? ⟨Ga,0,none⟩=some (.int .i64 yc):=(ga za.out 0).trans rfl;have Rag:wc.cell? ⟨Ga,1,none⟩=some (.int .i64 Qb):=(ga za.out 1).trans rfl;have Qag:wc.cell? ⟨Ga,2,none⟩=some (.int .i64 Jb):=(ga za.out 2).trans rfl;have Pag:wc.cell? ⟨Ga,3,none⟩=some (.int .i64 Kb):=(ga za.out 3).trans rfl;have Oag:wc.cell? ⟨Ga,4,none⟩=some (.int .i64 ec):=(ga za.out 4).trans rfl;have Nag:wc.cell? ⟨Ga,5,none⟩=some (.int .i64 Gc):=(ga za.out 5).trans rfl;have Mag:wc.cell? ⟨Ga,6,none⟩=some (.string Tc):=(ga za.out 6).trans rfl;have Jad:=aa za.out 0;have Iad:=aa za.out 1;have Had:=aa za.out 2;have Gad:=aa za.out 3;have Fad:=aa za.out 4;have Ead:=aa za.out 5;have Dad:=aa za.out 6;go_wp2;go_ret;exact ⟨by first|rfl|(simp [Na,Ma] <;> rfl)|(simp [*,Na,Ma] <;> rfl),by repeat (first|(with_reducible first|exact HB.out|apply qa|apply ia|apply ta|refine ua ?_ Ta.out|refine ua ?_ uc.out)|exact HB.out)⟩
           ·replace c68:=Bool.eq_false_iff.mpr c68;subst c68;have H1:(some false)=some r:=by rw [if_neg (show ¬ (false=true) by decide)] at H;exact H
            clear H;have H:=H1;clear H1;obtain rfl:=Option.some.inj H;have Zao:=Cb.out;have tao:=Db.out;have Lag:wc.cell? ⟨Ga,0,none⟩=some (.int .i64 yc):=(ga za.out 0).trans rfl;have Kag:wc.cell? ⟨Ga,1,none⟩=some (.int .i64 Qb):=(ga za.out 1).trans rfl;have Jag:wc.cell? ⟨Ga,2,none⟩=some (.int .i64 Jb):=(ga za.out 2).trans rfl;have Iag:wc.cell? ⟨Ga,3,none⟩=some (.int .i64 Kb):=(ga za.out 3).trans rfl;have Hag:wc.cell? ⟨Ga,4,none⟩=some (.int .i64 ec):=(ga za.out 4).trans rfl;have Gag:wc.cell? ⟨Ga,5,none⟩=some (.int .i64 Gc):=(ga za.out 5).trans rfl;have Fag:wc.cell? ⟨Ga,6,none⟩=some (.string Tc):=(ga za.out 6).trans rfl;have Cad:=aa za.out 0;have Bad:=aa za.out 1;have Aad:=aa za.out 2;have zad:=aa za.out 3;have yad:=aa za.out 4;have xad:=aa za.out 5;have wad:=aa za.out 6;go_wp2;go_ret;exact ⟨by first|rfl|(simp [Na,Ma] <;> rfl)|(simp [*,Na,Ma] <;> rfl),by repeat (first|(with_reducible first|exact HB.out|apply qa|apply ia|apply ta|refine ua ?_ Ta.out|refine ua ?_ uc.out)|exact HB.out)⟩
          ·replace c67:=Bool.eq_false_iff.mpr c67;subst c67;have H1:(some false)=some r:=by rw [if_neg (show ¬ (false=true) by decide)] at H;exact H
           clear H;have H:=H1;clear H1;obtain rfl:=Option.some.inj H;have Yao:=Cb.out;have sao:=Db.out;have Eag:wc.cell? ⟨Ga,0,none⟩=some (.int .i64 yc):=(ga za.out 0).trans rfl;have Dag:wc.cell? ⟨Ga,1,none⟩=some (.int .i64 Qb):=(ga za.out 1).trans rfl;have Cag:wc.cell? ⟨Ga,2,none⟩=some (.int .i64 Jb):=(ga za.out 2).trans rfl;have Bag:wc.cell? ⟨Ga,3,none⟩=some (.int .i64 Kb):=(ga za.out 3).trans rfl;have Aag:wc.cell? ⟨Ga,4,none⟩=some (.int .i64 ec):=(ga za.out 4).trans rfl;have zag:wc.cell? ⟨Ga,5,none⟩=some (.int .i64 Gc):=(ga za.out 5).trans rfl;have yag:wc.cell? ⟨Ga,6,none⟩=some (.string Tc):=(ga za.out 6).trans rfl;have vad:=aa za.out 0;have uad:=aa za.out 1;have tad:=aa za.out 2;have sad:=aa za.out 3;have rad:=aa za.out 4;have qad:=aa za.out 5;have oad:=aa za.out 6;go_wp2;go_ret;exact ⟨by first|rfl|(simp [Na,Ma] <;> rfl)|(simp [*,Na,Ma] <;> rfl),by repeat (first|(with_reducible first|exact HB.out|apply qa|apply ia|apply ta|refine ua ?_ Ta.out|refine ua ?_ uc.out)|exact HB.out)⟩
         ·replace c66:=Bool.eq_false_iff.mpr c66;subst c66;have H1:(some false)=some r:=by rw [if_neg (show ¬ (false=true) by decide)] at H;exact H
          clear H;have H:=H1;clear H1;obtain rfl:=Option.some.inj H;have Xao:=Cb.out;have rao:=Db.out;have xag:wc.cell? ⟨Ga,0,none⟩=some (.int .i64 yc):=(ga za.out 0).trans rfl;have wag:wc.cell? ⟨Ga,1,none⟩=some (.int .i64 Qb):=(ga za.out 1).trans rfl;have vag:wc.cell? ⟨Ga,2,none⟩=some (.int .i64 Jb):=(ga za.out 2).trans rfl;have uag:wc.cell? ⟨Ga,3,none⟩=some (.int .i64 Kb):=(ga za.out 3).trans rfl;have sag:wc.cell? ⟨Ga,4,none⟩=some (.int .i64 ec):=(ga za.out 4).trans rfl;have rag:wc.cell? ⟨Ga,5,none⟩=some (.int .i64 Gc):=(ga za.out 5).trans rfl;have qag:wc.cell? ⟨Ga,6,none⟩=some (.string Tc):=(ga za.out 6).trans rfl;have nad:=aa za.out 0;have mad:=aa za.out 1;have lad:=aa za.out 2;have kad:=aa za.out 3;have jad:=aa za.out 4;have iad:=aa za.out 5;have gad:=aa za.out 6;go_wp2;go_ret;exact ⟨by first|rfl|(simp [Na,Ma] <;> rfl)|(simp [*,Na,Ma] <;> rfl),by repeat (first|(with_reducible first|exact HB.out|apply qa|apply ia|apply ta|refine ua ?_ Ta.out|refine ua ?_ uc.out)|exact HB.out)⟩
        ·rw [if_neg YZ] at H;have aaa:(yc == 2)=false:=beq_eq_false_iff_ne.mpr YZ;have Z_:(yc != 2)=true:=bne_iff_ne.mpr YZ
         by_cases WZ:yc=3
         ·rw [if_pos WZ] at H;have V_:(yc == 3)=true:=beq_iff_eq.mpr WZ;have U_:(yc != 3)=false:=bne_eq_false_iff_eq.mpr WZ;clear WZ
          by_cases c86:t103=true
          ·subst c86;have H1:(some GG)=some r:=by rw [if_pos rfl] at H;exact H
           clear H;have H:=H1;clear H1;obtain rfl:=Option.some.inj H;have Wao:=Cb.out;have qao:=Db.out;have pag:wc.cell? ⟨Ga,0,none⟩=some (.int .i64 yc):=(ga za.out 0).trans rfl;have oag:wc.cell? ⟨Ga,1,none⟩=some (.int .i64 Qb):=(ga za.out 1).trans rfl;have nag:wc.cell? ⟨Ga,2,none⟩=some (.int .i64 Jb):=(ga za.out 2).trans rfl;have lag:wc.cell? ⟨Ga,3,none⟩=some (.int .i64 Kb):=(ga za.out 3).trans rfl;have kag:wc.cell? ⟨Ga,4,none⟩=some (.int .i64 ec):=(ga za.out 4).trans rfl;have jag:wc.cell? ⟨Ga,5,none⟩=some (.int .i64 Gc):=(ga za.out 5).trans rfl;have iag:wc.cell? ⟨Ga,6,none⟩=some (.string Tc):=(ga za.out 6).trans rfl;have fad:=aa za.out 0;have ead:=aa za.out 1;have dad:=aa za.out 2;have cad:=aa za.out 3;have aad:=aa za.out 4;have Zac:=aa za.out 5;have Yac:=aa za.out 6;go_wp2;go_ret;exact ⟨by first|rfl|(simp [Na,Ma] <;> rfl)|(simp [*,Na,Ma] <;> rfl),by repeat (first|(with_reducible first|exact HB.out|apply qa|apply ia|apply ta|refine ua ?_ Ta.out|refine ua ?_ uc.out)|exact HB.out)⟩
          ·replace c86:=Bool.eq_false_iff.mpr c86;subst c86;have H1:(some false)=some r:=by rw [if_neg (show ¬ (false=true) by decide)] at H;exact H
           clear H;have H:=H1;clear H1;obtain rfl:=Option.some.inj H;have Vao:=Cb.out;have pao:=Db.out;have hag:wc.cell? ⟨Ga,0,none⟩=some (.int .i64 yc):=(ga za.out 0).trans rfl;have gag:wc.cell? ⟨Ga,1,none⟩=some (.int .i64 Qb):=(ga za.out 1).trans rfl;have fag:wc.cell? ⟨Ga,2,none⟩=some (.int .i64 Jb):=(ga za.out 2).trans rfl;have eag:wc.cell? ⟨Ga,3,none⟩=some (.int .i64 Kb):=(ga za.out 3).trans rfl;have dag:wc.cell? ⟨Ga,4,none⟩=some (.int .i64 ec):=(ga za.out 4).trans rfl;have cag:wc.cell? ⟨Ga,5,none⟩=some (.int .i64 Gc):=(ga za.out 5).trans rfl;have bag:wc.cell? ⟨Ga,6,none⟩=some (.string Tc):=(ga za.out 6).trans rfl;have Xac:=aa za.out 0;have Wac:=aa za.out 1;have Vac:=aa za.out 2;have Uac:=aa za.out 3;have Tac:=aa za.out 4;have Sac:=aa za.out 5;have Rac:=aa za.out 6;go_wp2;go_ret;exact ⟨by first|rfl|(simp [Na,Ma] <;> rfl)|(simp [*,Na,Ma] <;> rfl),by repeat (first|(with_reducible first|exact HB.out|apply qa|apply ia|apply ta|refine ua ?_ Ta.out|refine ua ?_ uc.out)|exact HB.out)⟩
         ·rw [if_neg WZ] at H;have V_:(yc == 3)=false:=beq_eq_false_iff_ne.mpr WZ;have U_:(yc != 3)=true:=bne_iff_ne.mpr WZ
          by_cases VZ:yc=4
          ·rw [if_pos VZ] at H;have S_:(yc == 4)=true:=beq_iff_eq.mpr VZ;have R_:(yc != 4)=false:=bne_eq_false_iff_eq.mpr VZ;clear VZ
           by_cases UZ:Qb=0
           ·rw [if_pos UZ] at H;have Q_:(Qb == 0)=true:=beq_iff_eq.mpr UZ;have P_:(Qb != 0)=false:=bne_eq_false_iff_eq.mpr UZ;clear UZ
            by_cases c93:GG=true
            ·subst c93;have H1:((Xa.f ec 0 (wrap64 (Ia - 1))).bind fun t112=>(some t112))=some r:=by rw [if_pos rfl] at H;exact H
             clear H;have H:=H1;clear H1;replace H:=Option.bind_eq_some_iff.mp H;obtain ⟨t112,aac,H⟩:=H;replace H:(some t112)=some r:=H;have A94:=ja.mk aac;clear aac;obtain rfl:=Option.some.inj H;have Uao:=Cb.out;have oao:=Db.out;have aag:wc.cell? ⟨Ga,0,none⟩=some (.int .i64 yc):=(ga za.out 0).trans rfl;have Zaf:wc.cell? ⟨Ga,1,none⟩=some (.int .i64 Qb):=(ga za.out 1).trans rfl;have Yaf:wc.cell? ⟨Ga,2,none⟩=some (.int .i64 Jb):=(ga za.out 2).trans rfl;have Xaf:wc.cell? ⟨Ga,3,none⟩=some (.int .i64 Kb):=(ga za.out 3).trans rfl;have Waf:wc.cell? ⟨Ga,4,none⟩=some (.int .i64 ec):=(ga za.out 4).trans rfl;have Vaf:wc.cell? ⟨Ga,5,none⟩=some (.int .i64 Gc):=(ga za.out 5).trans rfl;have Uaf:wc.cell? ⟨Ga,6,none⟩=some (.string Tc):=(ga za.out 6).trans rfl;have Qac:=aa za.out 0;have Pac:=aa za.out 1;have Oac:=aa za.out 2;have Nac:=aa za.out 3;have Mac:=aa za.out 4;have Lac:=aa za.out 5;have Kac:=aa za.out 6;have Taf:wc.cell? ⟨ya,0,none⟩=some (.slice Za Ra.length gb):=(ga oa.out 0).trans rfl;have Saf:wc.cell? ⟨ya,1,none⟩=some (.int .i64 La):=(ga oa.out 1).trans rfl;have Raf:wc.cell? ⟨ya,2,none⟩=some (.int .i64 Ja):=(ga oa.out 2).trans rfl;have Qaf:wc.cell? ⟨ya,3,none⟩=some (.int .i64 Ia):=(ga oa.out 3).trans rfl;have Paf:wc.cell? ⟨ya,4,none⟩=some (.slice Vb Fa.length Lb):=(ga oa.out 4).trans rfl;have Jac:=aa oa.out 0;have Iac:=aa oa.out 1;have Hac:=aa oa.out 2;have Gac:=aa oa.out 3;have Fac:=aa oa.out 4;go_wp2_with (first|(go_at_call 53;(with_reducible refine (Xa.calls ec 0 (wrap64 (Ia - 1)) t112 _ A94.out).mono ?_);rintro e w' ⟨rfl,⟨nd,rfl⟩⟩));go_ret;exact ⟨by first|rfl|(simp [Na,Ma] <;> rfl)|(simp [*,Na,Ma] <;> rfl),by repeat (first|(with_reducible first|exact HB.out|apply qa|apply ia|apply ta|refine ua ?_ Ta.out|refine ua ?_ uc.out)|exact HB.out)⟩
            ·replace c93:=Bool.eq_false_iff.mpr c93;subst c93;have H1:(some false)=some r:=by rw [if_neg (show ¬ (false=true) by decide)] at H;exact H
             clear H;have H:=H1;clear H1;obtain rfl:=Option.some.inj H;have Tao:=Cb.out;have nao:=Db.out;have Oaf:wc.cell? ⟨Ga,0,none⟩=some (.int .i64 yc):=(ga za.out 0).trans rfl;have Naf:wc.cell? ⟨Ga,1,none⟩=some (.int .i64 Qb):=(ga za.out 1).trans rfl;have Maf:wc.cell? ⟨Ga,2,none⟩=some (.int .i64 Jb):=(ga za.out 2).trans rfl;have Laf:wc.cell? ⟨Ga,3,none⟩=some (.int .i64 Kb):=(ga za.out 3).trans rfl;have Kaf:wc.cell? ⟨Ga,4,none⟩=some (.int .i64 ec):=(ga za.out 4).trans rfl;have Jaf:wc.cell? ⟨Ga,5,none⟩=some (.int .i64 Gc):=(ga za.out 5).trans rfl;have Iaf:wc.cell? ⟨Ga,6,none⟩=some (.string Tc):=(ga za.out 6).trans rfl;have Eac:=aa za.out 0;have Dac:=aa za.out 1;have Cac:=aa za.out 2;have Bac:=aa za.out 3;have Aac:=aa za.out 4;have zac:=aa za.out 5;have yac:=aa za.out 6;go_wp2;go_ret;exact ⟨by first|rfl|(simp [Na,Ma] <;> rfl)|(simp [*,Na,Ma] <;> rfl),by repeat (first|(with_reducible first|exact HB.out|apply qa|apply ia|apply ta|refine ua ?_ Ta.out|refine ua ?_ uc.out)|exact HB.out)⟩
           ·rw [if_neg UZ] at H;have Q_:(Qb == 0)=false:=beq_eq_false_iff_ne.mpr UZ;have P_:(Qb != 0)=true:=bne_iff_ne.mpr UZ;obtain rfl:=Option.some.inj H;have Jak:=Cb.out;have vak:=Db.out;have U9:wc.cell? ⟨Ga,0,none⟩=some (.int .i64 yc):=(ga za.out 0).trans rfl;have T9:wc.cell? ⟨Ga,1,none⟩=some (.int .i64 Qb):=(ga za.out 1).trans rfl;have S9:wc.cell? ⟨Ga,2,none⟩=some (.int .i64 Jb):=(ga za.out 2).trans rfl;have R9:wc.cell? ⟨Ga,3,none⟩=some (.int .i64 Kb):=(ga za.out 3).trans rfl;have Q9:wc.cell? ⟨Ga,4,none⟩=some (.int .i64 ec):=(ga za.out 4).trans rfl;have P9:wc.cell? ⟨Ga,5,none⟩=some (.int .i64 Gc):=(ga za.out 5).trans rfl;have O9:wc.cell? ⟨Ga,6,none⟩=some (.string Tc):=(ga za.out 6).trans rfl;have T7:=aa za.out 0;have R7:=aa za.out 1;have Q7:=aa za.out 2;have P7:=aa za.out 3;have O7:=aa za.out 4;have N7:=aa za.out 5;have M7:=aa za.out 6;go_wp2;go_ret;exact ⟨by first|rfl|(simp [Na,Ma] <;> rfl)|(simp [*,Na,Ma] <;> rfl),by repeat (first|(with_reducible first|exact HB.out|apply qa|apply ia|apply ta|refine ua ?_ Ta.out|refine ua ?_ uc.out)|exact HB.out)⟩
          ·rw [if_neg VZ] at H;have S_:(yc == 4)=false:=beq_eq_false_iff_ne.mpr VZ;have R_:(yc != 4)=true:=bne_iff_ne.mpr VZ
           by_cases AJ:yc=5
           ·rw [if_pos AJ] at H;have S0:(yc == 5)=true:=beq_iff_eq.mpr AJ;have R0:(yc != 5)=false:=bne_eq_false_iff_eq.mpr AJ;clear AJ
            by_cases vV:t103=true
            ·subst vV;have H1:(if Jb=0 then (if Kb=0 then (some (Gc == 0)) else (some false)) else (some false))=some r:=by rw [if_pos rfl] at H;exact H
             clear H;have H:=H1;clear H1
             by_cases zJ:Jb=0
             ·rw [if_pos zJ] at H;have P0:(Jb == 0)=true:=beq_iff_eq.mpr zJ;have O0:(Jb != 0)=false:=bne_eq_false_iff_eq.mpr zJ;clear zJ
              by_cases yJ:Kb=0
              ·rw [if_pos yJ] at H;have N0:(Kb == 0)=true:=beq_iff_eq.mpr yJ;have M0:(Kb != 0)=false:=bne_eq_false_iff_eq.mpr yJ;clear yJ;obtain rfl:=Option.some.inj H;have Iak:=Cb.out;have uak:=Db.out;have N9:wc.cell? ⟨Ga,0,none⟩=some (.int .i64 yc):=(ga za.out 0).trans rfl;have M9:wc.cell? ⟨Ga,1,none⟩=some (.int .i64 Qb):=(ga za.out 1).trans rfl;have L9:wc.cell? ⟨Ga,2,none⟩=some (.int .i64 Jb):=(ga za.out 2).trans rfl;have K9:wc.cell? ⟨Ga,3,none⟩=some (.int .i64 Kb):=(ga za.out 3).trans rfl;have J9:wc.cell? ⟨Ga,4,none⟩=some (.int .i64 ec):=(ga za.out 4).trans rfl;have I9:wc.cell? ⟨Ga,5,none⟩=some (.int .i64 Gc):=(ga za.out 5).trans rfl;have H9:wc.cell? ⟨Ga,6,none⟩=some (.string Tc):=(ga za.out 6).trans rfl;have L7:=aa za.out 0;have K7:=aa za.out 1;have J7:=aa za.out 2;have I7:=aa za.out 3;have H7:=aa za.out 4;have G7:=aa za.out 5;have F7:=aa za.out 6;go_wp2;go_ret;exact ⟨by first|rfl|(simp [Na,Ma] <;> rfl)|(simp [*,Na,Ma] <;> rfl),by repeat (first|(with_reducible first|exact HB.out|apply qa|apply ia|apply ta|refine ua ?_ Ta.out|refine ua ?_ uc.out)|exact HB.out)⟩
              ·rw [if_neg yJ] at H;have N0:(Kb == 0)=false:=beq_eq_false_iff_ne.mpr yJ;have M0:(Kb != 0)=true:=bne_iff_ne.mpr yJ;obtain rfl:=Option.some.inj H;have Hak:=Cb.out;have tak:=Db.out;have G9:wc.cell? ⟨Ga,0,none⟩=some (.int .i64 yc):=(ga za.out 0).trans rfl;have F9:wc.cell? ⟨Ga,1,none⟩=some (.int .i64 Qb):=(ga za.out 1).trans rfl;have E9:wc.cell? ⟨Ga,2,none⟩=some (.int .i64 Jb):=(ga za.out 2).trans rfl;have D9:wc.cell? ⟨Ga,3,none⟩=some (.int .i64 Kb):=(ga za.out 3).trans rfl;have C9:wc.cell? ⟨Ga,4,none⟩=some (.int .i64 ec):=(ga za.out 4).trans rfl;have B9:wc.cell? ⟨Ga,5,none⟩=some (.int .i64 Gc):=(ga za.out 5).trans rfl;have z9:wc.cell? ⟨Ga,6,none⟩=some (.string Tc):=(ga za.out 6).trans rfl;have E7:=aa za.out 0;have D7:=aa za.out 1;have C7:=aa za.out 2;have B7:=aa za.out 3;have y7:=aa za.out 4;have u7:=aa za.out 5;have o7:=aa za.out 6;go_wp2;go_ret;exact ⟨by first|rfl|(simp [Na,Ma] <;> rfl)|(simp [*,Na,Ma] <;> rfl),by repeat (first|(with_reducible first|exact HB.out|apply qa|apply ia|apply ta|refine ua ?_ Ta.out|refine ua ?_ uc.out)|exact HB.out)⟩
             ·rw [if_neg zJ] at H;have P0:(Jb == 0)=false:=beq_eq_false_iff_ne.mpr zJ;have O0:(Jb != 0)=true:=bne_iff_ne.mpr zJ;obtain rfl:=Option.some.inj H;have Gak:=Cb.out;have sak:=Db.out;have y9:wc.cell? ⟨Ga,0,none⟩=some (.int .i64 yc):=(ga za.out 0).trans rfl;have u9:wc.cell? ⟨Ga,1,none⟩=some (.int .i64 Qb):=(ga za.out 1).trans rfl;have r9:wc.cell? ⟨Ga,2,none⟩=some (.int .i64 Jb):=(ga za.out 2).trans rfl;have o9:wc.cell? ⟨Ga,3,none⟩=some (.int .i64 Kb):=(ga za.out 3).trans rfl;have n9:wc.cell? ⟨Ga,4,none⟩=some (.int .i64 ec):=(ga za.out 4).trans rfl;have m9:wc.cell? ⟨Ga,5,none⟩=some (.int .i64 Gc):=(ga za.out 5).trans rfl;have l9:wc.cell? ⟨Ga,6,none⟩=some (.string Tc):=(ga za.out 6).trans rfl;have n7:=aa za.out 0;have m7:=aa za.out 1;have l7:=aa za.out 2;have k7:=aa za.out 3;have j7:=aa za.out 4;have g7:=aa za.out 5;have e7:=aa za.out 6;go_wp2;go_ret;exact ⟨by first|rfl|(simp [Na,Ma] <;> rfl)|(simp [*,Na,Ma] <;> rfl),by repeat (first|(with_reducible first|exact HB.out|apply qa|apply ia|apply ta|refine ua ?_ Ta.out|refine ua ?_ uc.out)|exact HB.out)⟩
            ·replace vV:=Bool.eq_false_iff.mpr vV;subst vV;have H1:(some false)=some r:=by rw [if_neg (show ¬ (false=true) by decide)] at H;exact H
             clear H;have H:=H1;clear H1;obtain rfl:=Option.some.inj H;have Fak:=Cb.out;have rak:=Db.out;have k9:wc.cell? ⟨Ga,0,none⟩=some (.int .i64 yc):=(ga za.out 0).trans rfl;have j9:wc.cell? ⟨Ga,1,none⟩=some (.int .i64 Qb):=(ga za.out 1).trans rfl;have g9:wc.cell? ⟨Ga,2,none⟩=some (.int .i64 Jb):=(ga za.out 2).trans rfl;have e9:wc.cell? ⟨Ga,3,none⟩=some (.int .i64 Kb):=(ga za.out 3).trans rfl;have b9:wc.cell? ⟨Ga,4,none⟩=some (.int .i64 ec):=(ga za.out 4).trans rfl;have Z8:wc.cell? ⟨Ga,5,none⟩=some (.int .i64 Gc):=(ga za.out 5).trans rfl;have Y8:wc.cell? ⟨Ga,6,none⟩=some (.string Tc):=(ga za.out 6).trans rfl;have b7:=aa za.out 0;have Z6:=aa za.out 1;have Y6:=aa za.out 2;have X6:=aa za.out 3;have W6:=aa za.out 4;have V6:=aa za.out 5;have U6:=aa za.out 6;go_wp2;go_ret;exact ⟨by first|rfl|(simp [Na,Ma] <;> rfl)|(simp [*,Na,Ma] <;> rfl),by repeat (first|(with_reducible first|exact HB.out|apply qa|apply ia|apply ta|refine ua ?_ Ta.out|refine ua ?_ uc.out)|exact HB.out)⟩
           ·rw [if_neg AJ] at H;have S0:(yc == 5)=false:=beq_eq_false_iff_ne.mpr AJ;have R0:(yc != 5)=true:=bne_iff_ne.mpr AJ
            by_cases wJ:yc=6
            ·rw [if_pos wJ] at H;have L0:(yc == 6)=true:=beq_iff_eq.mpr wJ;have K0:(yc != 6)=false:=bne_eq_false_iff_eq.mpr wJ;clear wJ
             by_cases vJ:Qb=0
             ·rw [if_pos vJ] at H;have J0:(Qb == 0)=true:=beq_iff_eq.mpr vJ;have I0:(Qb != 0)=false:=bne_eq_false_iff_eq.mpr vJ;clear vJ
              by_cases uV:t104=true
              ·subst uV;have H1:(if Kb=0 then (some (Gc == 0)) else (some false))=some r:=by rw [if_pos rfl] at H;exact H
               clear H;have H:=H1;clear H1
               by_cases uJ:Kb=0
               ·rw [if_pos uJ] at H;have G0:(Kb == 0)=true:=beq_iff_eq.mpr uJ;have C0:(Kb != 0)=false:=bne_eq_false_iff_eq.mpr uJ;clear uJ;obtain rfl:=Option.some.inj H;have Eak:=Cb.out;have qak:=Db.out;have X8:wc.cell? ⟨Ga,0,none⟩=some (.int .i64 yc):=(ga za.out 0).trans rfl;have W8:wc.cell? ⟨Ga,1,none⟩=some (.int .i64 Qb):=(ga za.out 1).trans rfl;have V8:wc.cell? ⟨Ga,2,none⟩=some (.int .i64 Jb):=(ga za.out 2).trans rfl;have U8:wc.cell? ⟨Ga,3,none⟩=some (.int .i64 Kb):=(ga za.out 3).trans rfl;have T8:wc.cell? ⟨Ga,4,none⟩=some (.int .i64 ec):=(ga za.out 4).trans rfl;have R8:wc.cell? ⟨Ga,5,none⟩=some (.int .i64 Gc):=(ga za.out 5).trans rfl;have Q8:wc.cell? ⟨Ga,6,none⟩=some (.string Tc):=(ga za.out 6).trans rfl;have S6:=aa za.out 0;have R6:=aa za.out 1;have Q6:=aa za.out 2;have P6:=aa za.out 3;have O6:=aa za.out 4;have N6:=aa za.out 5;have M6:=aa za.out 6;go_wp2;go_ret;exact ⟨by first|rfl|(simp [Na,Ma] <;> rfl)|(simp [*,Na,Ma] <;> rfl),by repeat (first|(with_reducible first|exact HB.out|apply qa|apply ia|apply ta|refine ua ?_ Ta.out|refine ua ?_ uc.out)|exact HB.out)⟩
               ·rw [if_neg uJ] at H;have G0:(Kb == 0)=false:=beq_eq_false_iff_ne.mpr uJ;have C0:(Kb != 0)=true:=bne_iff_ne.mpr uJ;obtain rfl:=Option.some.inj H;have Dak:=Cb.out;have pak:=Db.out;have P8:wc.cell? ⟨Ga,0,none⟩=some (.int .i64 yc):=(ga za.out 0).trans rfl;have O8:wc.cell? ⟨Ga,1,none⟩=some (.int .i64 Qb):=(ga za.out 1).trans rfl;have N8:wc.cell? ⟨Ga,2,none⟩=some (.int .i64 Jb):=(ga za.out 2).trans rfl;have M8:wc.cell? ⟨Ga,3,none⟩=some (.int .i64 Kb):=(ga za.out 3).trans rfl;have L8:wc.cell? ⟨Ga,4,none⟩=some (.int .i64 ec):=(ga za.out 4).trans rfl;have K8:wc.cell? ⟨Ga,5,none⟩=some (.int .i64 Gc):=(ga za.out 5).trans rfl;have J8:wc.cell? ⟨Ga,6,none⟩=some (.string Tc):=(ga za.out 6).trans rfl;have L6:=aa za.out 0;have K6:=aa za.out 1;have J6:=aa za.out 2;have I6:=aa za.out 3;have H6:=aa za.out 4;have G6:=aa za.out 5;have F6:=aa za.out 6;go_wp2;go_ret;exact ⟨by first|rfl|(simp [Na,Ma] <;> rfl)|(simp [*,Na,Ma] <;> rfl),by repeat (first|(with_reducible first|exact HB.out|apply qa|apply ia|apply ta|refine ua ?_ Ta.out|refine ua ?_ uc.out)|exact HB.out)⟩
              ·replace uV:=Bool.eq_false_iff.mpr uV;subst uV;have H1:(some false)=some r:=by rw [if_neg (show ¬ (false=true) by decide)] at H;exact H
               clear H;have H:=H1;clear H1;obtain rfl:=Option.some.inj H;have Cak:=Cb.out;have oak:=Db.out;have I8:wc.cell? ⟨Ga,0,none⟩=some (.int .i64 yc):=(ga za.out 0).trans rfl;have H8:wc.cell? ⟨Ga,1,none⟩=some (.int .i64 Qb):=(ga za.out 1).trans rfl;have G8:wc.cell? ⟨Ga,2,none⟩=some (.int .i64 Jb):=(ga za.out 2).trans rfl;have F8:wc.cell? ⟨Ga,3,none⟩=some (.int .i64 Kb):=(ga za.out 3).trans rfl;have E8:wc.cell? ⟨Ga,4,none⟩=some (.int .i64 ec):=(ga za.out 4).trans rfl;have D8:wc.cell? ⟨Ga,5,none⟩=some (.int .i64 Gc):=(ga za.out 5).trans rfl;have C8:wc.cell? ⟨Ga,6,none⟩=some (.string Tc):=(ga za.out 6).trans rfl;have E6:=aa za.out 0;have D6:=aa za.out 1;have C6:=aa za.out 2;have u6:=aa za.out 3;have n6:=aa za.out 4;have m6:=aa za.out 5;have l6:=aa za.out 6;go_wp2;go_ret;exact ⟨by first|rfl|(simp [Na,Ma] <;> rfl)|(simp [*,Na,Ma] <;> rfl),by repeat (first|(with_reducible first|exact HB.out|apply qa|apply ia|apply ta|refine ua ?_ Ta.out|refine ua ?_ uc.out)|exact HB.out)⟩
             ·rw [if_neg vJ] at H;have J0:(Qb == 0)=false:=beq_eq_false_iff_ne.mpr vJ;have I0:(Qb != 0)=true:=bne_iff_ne.mpr vJ;obtain rfl:=Option.some.inj H;have Bak:=Cb.out;have nak:=Db.out;have B8:wc.cell? ⟨Ga,0,none⟩=some (.int .i64 yc):=(ga za.out 0).trans rfl;have y8:wc.cell? ⟨Ga,1,none⟩=some (.int .i64 Qb):=(ga za.out 1).trans rfl;have r8:wc.cell? ⟨Ga,2,none⟩=some (.int .i64 Jb):=(ga za.out 2).trans rfl;have o8:wc.cell? ⟨Ga,3,none⟩=some (.int .i64 Kb):=(ga za.out 3).trans rfl;have n8:wc.cell? ⟨Ga,4,none⟩=some (.int .i64 ec):=(ga za.out 4).trans rfl;have m8:wc.cell? ⟨Ga,5,none⟩=some (.int .i64 Gc):=(ga za.out 5).trans rfl;have l8:wc.cell? ⟨Ga,6,none⟩=some (.string Tc):=(ga za.out 6).trans rfl;have j6:=aa za.out 0;have e6:=aa za.out 1;have b6:=aa za.out 2;have Z5:=aa za.out 3;have Y5:=aa za.out 4;have X5:=aa za.out 5;have W5:=aa za.out 6;go_wp2;go_ret;exact ⟨by first|rfl|(simp [Na,Ma] <;> rfl)|(simp [*,Na,Ma] <;> rfl),by repeat (first|(with_reducible first|exact HB.out|apply qa|apply ia|apply ta|refine ua ?_ Ta.out|refine ua ?_ uc.out)|exact HB.out)⟩
            ·rw [if_neg wJ] at H;have L0:(yc == 6)=false:=beq_eq_false_iff_ne.mpr wJ;have K0:(yc != 6)=true:=bne_iff_ne.mpr wJ;obtain rfl:=Option.some.inj H;have Aak:=Cb.out;have mak:=Db.out;have k8:wc.cell? ⟨Ga,0,none⟩=some (.int .i64 yc):=(ga za.out 0).trans rfl;have j8:wc.cell? ⟨Ga,1,none⟩=some (.int .i64 Qb):=(ga za.out 1).trans rfl;have g8:wc.cell? ⟨Ga,2,none⟩=some (.int .i64 Jb):=(ga za.out 2).trans rfl;have e8:wc.cell? ⟨Ga,3,none⟩=some (.int .i64 Kb):=(ga za.out 3).trans rfl;have b8:wc.cell? ⟨Ga,4,none⟩=some (.int .i64 ec):=(ga za.out 4).trans rfl;have Z7:wc.cell? ⟨Ga,5,none⟩=some (.int .i64 Gc):=(ga za.out 5).trans rfl;have Y7:wc.cell? ⟨Ga,6,none⟩=some (.string Tc):=(ga za.out 6).trans rfl;have V5:=aa za.out 0;have U5:=aa za.out 1;have T5:=aa za.out 2;have S5:=aa za.out 3;have R5:=aa za.out 4;have Q5:=aa za.out 5;have P5:=aa za.out 6;go_wp2;go_ret;exact ⟨by first|rfl|(simp [Na,Ma] <;> rfl)|(simp [*,Na,Ma] <;> rfl),by repeat (first|(with_reducible first|exact HB.out|apply qa|apply ia|apply ta|refine ua ?_ Ta.out|refine ua ?_ uc.out)|exact HB.out)⟩
end Go.Proofs.Ytkigbdceceeenaa.P
end
