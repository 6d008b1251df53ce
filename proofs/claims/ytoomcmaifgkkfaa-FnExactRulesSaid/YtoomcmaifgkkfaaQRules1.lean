import Derived.Test.YtoomcmaifgkkfaaProg
import Derived.Below
import Derived.Deep.Draws
import Derived.Deep.AppendLies
import Derived.Maps.AppendAt
import Derived.OwnWalk
import Derived.Laws.BytesArg
import Derived.Laws.MakeOwn
import Derived.Laws.OwnMore
import Derived.Deep.OwnRows
import Derived.Tactics
import Derived.Lib.ConvBytes
import Derived.Laws.Slices
import Derived.WalkKit
import Derived.KernelRfl
import Derived.RowKit3
import Derived.Deep.LoopGhost
import Derived.Deep.QuietTactic
import Derived.BigQuiet
import Derived.WideLaws
import Derived.Deep.DeepCutAuto
import Derived.Deep.CutBlock
import Derived.Deep.RegionHeld3
import Derived.Laws.Rows
import Derived.Lib.AppendStr
import Derived.ArgAppend
import Derived.Laws.IdiomCopy
import Derived.OrdersHeld
import Derived.Laws.BitsLemmas
import Derived.RowKit
import Derived.Test.YtoomcmaifgkkfaaQRulesW1
import Derived.Test.YtoomcmaifgkkfaaQRulesW2
import Derived.Deep.Slices
import Derived.ChangeArms
import Derived.OpenShut
import Derived.WideShapes
set_option maxHeartbeats 8000000
set_option maxRecDepth 100000
section
namespace Go.Proofs.Ytoomcmaifgkkfaa.P
open Go.RowKit Go.Proofs.Ia.Qb Go.Proofs.Ia.Od Go.Proofs.Ia.Re
set_option linter.unusedVariables false
set_option linter.unusedSimpArgs false
attribute [local go_sem] Wh Uh Fj Ej oh nh Vh Th
def Eaa:Option Int→Value
 | none=>.nilIface
 | some c=>.iface 0 (.int .i64 c)
theorem Na:Eaa none = .nilIface:=rfl
theorem Ma (c:Int):Eaa (some c) = .iface 0 (.int .i64 c):=rfl
theorem info3:(Try.prog.info? 3).map (fun i=>(i.zero,i.size,i.bytes))=some (some (.int .i64 0),1,8):=by kernel_rfl
theorem NJ:(Try.prog.info? 4).map (fun i=>(i.zero,i.size,i.bytes))=some (some (.bool false),1,1):=by kernel_rfl
theorem sO:(Try.prog.info? 22).map (fun i=>(i.zero,i.size,i.bytes))=some (some (.slice none 0 0),1,24):=by kernel_rfl
theorem LY:(Try.prog.info? 73).map (fun i=>(i.zero,i.size,i.bytes))=some (some (.slice none 0 0),1,24):=by kernel_rfl
theorem KY:(Try.prog.info? 83).map (fun i=>(i.zero,i.size,i.bytes))=some (some (.agg #[(.slice none 0 0),(.int .i64 0),(.int .i64 0),(.int .i64 0),(.int .i64 0)]),5,56):=by kernel_rfl
theorem ZR:(Try.prog.info? 122).map (fun i=>(i.zero,i.size,i.bytes))=some (some (.agg #[(.int .i64 0),(.int .i64 0),(.int .i64 0),(.int .i64 0),(.int .i64 0),(.int .i64 0),(.string ⟨#[]⟩)]),7,64):=by kernel_rfl
structure S7 where
 f0:Int
 f1:Int
 f2:Bool
 f3:Int
def z7:S7:=⟨(0:Int),(0:Int),false,(0:Int)⟩
structure S8 where
 f0:Int
 f1:Int
 f2:Bool
 f3:Int
def z8:S8:=⟨(0:Int),(0:Int),false,(0:Int)⟩
def Eg (xs:List (List Int)) (i:Int):(List Int):=xs.getD i.toNat ([]:List Int)
theorem Gx {w:World} {A:Option Addr} {n:Nat} {xs:List (List Int)} (h:Kd.C (Kd.slice 3 (Kd.int .i64)) w A n xs) (i:Int) (h0:0 ≤ i) (h1:i < n):∃ ad A0 c0,A=some ad∧w.cell? (ad.add i.toNat)=some (.slice A0 (Eg xs i).length c0)∧(Eg xs i).length ≤ c0∧(Kd.int .i64).C w A0 (Eg xs i).length (Eg xs i):=by
 obtain ⟨ad,c,e,_,hK,hc0⟩:=Kd.cC h ([]:List Int) i h0 h1;have hc:∀ j u,c[j]? = some u→w.cell? (ad.add (i.toNat * 1 + j))=some u:=hc0;obtain ⟨A0,c0,rfl,l0,g0⟩:=hK;exact ⟨ad,A0,c0,e,by have hq:=hc 0 _ rfl;rwa [Nat.mul_one,Nat.add_zero] at hq,l0,g0⟩
structure S67 where
 f0:Int
 f1:Int
 f2:Int
 f3:Int
 f4:Int
def z67:S67:=⟨(0:Int),(0:Int),(0:Int),(0:Int),(0:Int)⟩
structure dm where
 f0:Int
 f1:Int
 f2:Int
 f3:Int
 f4:Int
 f5:Int
 f6:ByteArray
def z141:dm:=⟨(0:Int),(0:Int),(0:Int),(0:Int),(0:Int),(0:Int),(⟨#[]⟩:ByteArray)⟩
def fA:Kd dm:=Kd.jR (Kd.pair (Kd.int .i64) (Kd.pair (Kd.int .i64) (Kd.pair (Kd.int .i64) (Kd.pair (Kd.int .i64) (Kd.pair (Kd.int .i64) (Kd.pair (Kd.int .i64) Kd.string)))))) (fun x:dm=>(x.f0,x.f1,x.f2,x.f3,x.f4,x.f5,x.f6))
theorem FM {w:World} {x:dm} {cs:List Value} (h:fA.K w x cs):cs=[.int .i64 x.f0,.int .i64 x.f1,.int .i64 x.f2,.int .i64 x.f3,.int .i64 x.f4,.int .i64 x.f5,.string x.f6]:=by
 obtain ⟨_,_,rfl,rfl,⟨_,_,rfl,rfl,⟨_,_,rfl,rfl,⟨_,_,rfl,rfl,⟨_,_,rfl,rfl,⟨_,_,rfl,rfl,rfl⟩⟩⟩⟩⟩⟩:=h;exact rfl
def Ec (xs:List dm) (i:Int):dm:=xs.getD i.toNat z141
theorem cF {w:World} {A:Option Addr} {n:Nat} {xs:List dm} (h:Kd.C fA w A n xs) (i:Int) (h0:0 ≤ i) (h1:i < n):∃ ad , A=some ad∧w.cell? (ad.add (i.toNat * 7))=some (.int .i64 (Ec xs i).f0)∧w.cell? ⟨(ad.add (i.toNat * 7)).block,(ad.add (i.toNat * 7)).off + 1,none⟩=some (.int .i64 (Ec xs i).f1)∧w.cell? ⟨(ad.add (i.toNat * 7)).block,(ad.add (i.toNat * 7)).off + 2,none⟩=some (.int .i64 (Ec xs i).f2)∧w.cell? ⟨(ad.add (i.toNat * 7)).block,(ad.add (i.toNat * 7)).off + 3,none⟩=some (.int .i64 (Ec xs i).f3)∧w.cell? ⟨(ad.add (i.toNat * 7)).block,(ad.add (i.toNat * 7)).off + 4,none⟩=some (.int .i64 (Ec xs i).f4)∧w.cell? ⟨(ad.add (i.toNat * 7)).block,(ad.add (i.toNat * 7)).off + 5,none⟩=some (.int .i64 (Ec xs i).f5)∧w.cell? ⟨(ad.add (i.toNat * 7)).block,(ad.add (i.toNat * 7)).off + 6,none⟩=some (.string (Ec xs i).f6):=by
 obtain ⟨ad,c,e,_,hK,hc0⟩:=Kd.cC h z141 i h0 h1;have hc:∀ j u,c[j]? = some u→w.cell? (ad.add (i.toNat * 7 + j))=some u:=hc0;obtain rfl:=FM hK;exact ⟨ad,e,hc 0 _ rfl,by rw [← Qf _ _ 1 (by omega)];exact hc 1 _ rfl,by rw [← Qf _ _ 2 (by omega)];exact hc 2 _ rfl,by rw [← Qf _ _ 3 (by omega)];exact hc 3 _ rfl,by rw [← Qf _ _ 4 (by omega)];exact hc 4 _ rfl,by rw [← Qf _ _ 5 (by omega)];exact hc 5 _ rfl,by rw [← Qf _ _ 6 (by omega)];exact hc 6 _ rfl⟩
structure fk where
 f0:(List dm)
 f1:Int
 f2:Int
 f3:Int
 f4:Int
def F5:fk:=⟨([]:List dm),(0:Int),(0:Int),(0:Int),(0:Int)⟩
def gA:Kd fk:=Kd.jR (Kd.pair (Kd.slice 141 fA) (Kd.pair (Kd.int .i64) (Kd.pair (Kd.int .i64) (Kd.pair (Kd.int .i64) (Kd.int .i64))))) (fun x:fk=>(x.f0,x.f1,x.f2,x.f3,x.f4))
theorem JM {w:World} {x:fk} {cs:List Value} (h:gA.K w x cs):∃ A0 c0,cs=[.slice A0 x.f0.length c0,.int .i64 x.f1,.int .i64 x.f2,.int .i64 x.f3,.int .i64 x.f4]∧x.f0.length ≤ c0∧fA.C w A0 x.f0.length x.f0:=by
 obtain ⟨_,_,rfl,⟨A0,c0,rfl,l0,g0⟩,⟨_,_,rfl,rfl,⟨_,_,rfl,rfl,⟨_,_,rfl,rfl,rfl⟩⟩⟩⟩:=h;exact ⟨A0,c0,rfl,l0,g0⟩
def qd (xs:List fk) (i:Int):fk:=xs.getD i.toNat F5
theorem dF {w:World} {A:Option Addr} {n:Nat} {xs:List fk} (h:Kd.C gA w A n xs) (i:Int) (h0:0 ≤ i) (h1:i < n):∃ ad A0 c0,A=some ad∧w.cell? (ad.add (i.toNat * 5))=some (.slice A0 (qd xs i).f0.length c0)∧w.cell? ⟨(ad.add (i.toNat * 5)).block,(ad.add (i.toNat * 5)).off + 1,none⟩=some (.int .i64 (qd xs i).f1)∧w.cell? ⟨(ad.add (i.toNat * 5)).block,(ad.add (i.toNat * 5)).off + 2,none⟩=some (.int .i64 (qd xs i).f2)∧w.cell? ⟨(ad.add (i.toNat * 5)).block,(ad.add (i.toNat * 5)).off + 3,none⟩=some (.int .i64 (qd xs i).f3)∧w.cell? ⟨(ad.add (i.toNat * 5)).block,(ad.add (i.toNat * 5)).off + 4,none⟩=some (.int .i64 (qd xs i).f4)∧(qd xs i).f0.length ≤ c0∧fA.C w A0 (qd xs i).f0.length (qd xs i).f0:=by
 obtain ⟨ad,c,e,_,hK,hc0⟩:=Kd.cC h F5 i h0 h1;have hc:∀ j u,c[j]? = some u→w.cell? (ad.add (i.toNat * 5 + j))=some u:=hc0;obtain ⟨A0,c0,rfl,l0,g0⟩:=JM hK;exact ⟨ad,A0,c0,e,hc 0 _ rfl,by rw [← Qf _ _ 1 (by omega)];exact hc 1 _ rfl,by rw [← Qf _ _ 2 (by omega)];exact hc 2 _ rfl,by rw [← Qf _ _ 3 (by omega)];exact hc 3 _ rfl,by rw [← Qf _ _ 4 (by omega)];exact hc 4 _ rfl,l0,g0⟩
structure j5 where
 f0:(List Int)
 f1:Int
 f2:Int
 f3:Int
 f4:(List fk)
def k40:Kd j5:=Kd.jR (Kd.pair (Kd.slice 3 (Kd.int .i64)) (Kd.pair (Kd.int .i64) (Kd.pair (Kd.int .i64) (Kd.pair (Kd.int .i64) (Kd.slice 106 gA))))) (fun x:j5=>(x.f0,x.f1,x.f2,x.f3,x.f4))
theorem qO {w:World} {x:j5} {cs:List Value} (h:k40.K w x cs):∃ A0 c0 A4 c4,cs=[.slice A0 x.f0.length c0,.int .i64 x.f1,.int .i64 x.f2,.int .i64 x.f3,.slice A4 x.f4.length c4]∧x.f0.length ≤ c0∧(Kd.int .i64).C w A0 x.f0.length x.f0∧x.f4.length ≤ c4∧gA.C w A4 x.f4.length x.f4:=by
 obtain ⟨_,_,rfl,⟨A0,c0,rfl,l0,g0⟩,⟨_,_,rfl,rfl,⟨_,_,rfl,rfl,⟨_,_,rfl,rfl,⟨A4,c4,rfl,l4,g4⟩⟩⟩⟩⟩:=h;exact ⟨A0,c0,A4,c4,rfl,l0,g0,l4,g4⟩
structure Vc where
 f0:Int
 f1:Int
 f2:Int
 f3:Int
 f4:Int
 f5:Int
 f6:ByteArray
def Cj:Vc:=⟨(0:Int),(0:Int),(0:Int),(0:Int),(0:Int),(0:Int),(⟨#[]⟩:ByteArray)⟩
def Pf:Kd Vc:=Kd.jR (Kd.pair (Kd.int .i64) (Kd.pair (Kd.int .i64) (Kd.pair (Kd.int .i64) (Kd.pair (Kd.int .i64) (Kd.pair (Kd.int .i64) (Kd.pair (Kd.int .i64) Kd.string)))))) (fun x:Vc=>(x.f0,x.f1,x.f2,x.f3,x.f4,x.f5,x.f6))
theorem IM:Kd.Heap Pf:=Kd.uG _ (Kd.Yi (Kd.Ui .i64) (Kd.Yi (Kd.Ui .i64) (Kd.Yi (Kd.Ui .i64) (Kd.Yi (Kd.Ui .i64) (Kd.Yi (Kd.Ui .i64) (Kd.Yi (Kd.Ui .i64) Kd.sG))))))
theorem GM {w:World} {x:Vc} {cs:List Value} (h:Pf.K w x cs):cs=[.int .i64 x.f0,.int .i64 x.f1,.int .i64 x.f2,.int .i64 x.f3,.int .i64 x.f4,.int .i64 x.f5,.string x.f6]:=by
 obtain ⟨_,_,rfl,rfl,⟨_,_,rfl,rfl,⟨_,_,rfl,rfl,⟨_,_,rfl,rfl,⟨_,_,rfl,rfl,⟨_,_,rfl,rfl,rfl⟩⟩⟩⟩⟩⟩:=h;exact rfl
theorem bg {w:World} {base:Nat} {ok:Nat→Prop} {x:Vc} {cs:List Value} (h:Pf.M w base ok x cs):cs=[.int .i64 x.f0,.int .i64 x.f1,.int .i64 x.f2,.int .i64 x.f3,.int .i64 x.f4,.int .i64 x.f5,.string x.f6]:=by
 obtain ⟨_,_,rfl,rfl,⟨_,_,rfl,rfl,⟨_,_,rfl,rfl,⟨_,_,rfl,rfl,⟨_,_,rfl,rfl,⟨_,_,rfl,rfl,rfl⟩⟩⟩⟩⟩⟩:=h;exact rfl
theorem Ek (w:World) (base:Nat) (ok:Nat→Prop) (x:Vc)  : Pf.M w base ok x [.int .i64 x.f0,.int .i64 x.f1,.int .i64 x.f2,.int .i64 x.f3,.int .i64 x.f4,.int .i64 x.f5,.string x.f6]:=⟨[.int .i64 x.f0],[.int .i64 x.f1,.int .i64 x.f2,.int .i64 x.f3,.int .i64 x.f4,.int .i64 x.f5,.string x.f6],rfl,rfl,⟨[.int .i64 x.f1],[.int .i64 x.f2,.int .i64 x.f3,.int .i64 x.f4,.int .i64 x.f5,.string x.f6],rfl,rfl,⟨[.int .i64 x.f2],[.int .i64 x.f3,.int .i64 x.f4,.int .i64 x.f5,.string x.f6],rfl,rfl,⟨[.int .i64 x.f3],[.int .i64 x.f4,.int .i64 x.f5,.string x.f6],rfl,rfl,⟨[.int .i64 x.f4],[.int .i64 x.f5,.string x.f6],rfl,rfl,⟨[.int .i64 x.f5],[.string x.f6],rfl,rfl,rfl⟩⟩⟩⟩⟩⟩
def Ba (xs:List Vc) (i:Int):Vc:=xs.getD i.toNat Cj
theorem Cq {w:World} {A:Option Addr} {n:Nat} {xs:List Vc} (h:Kd.C Pf w A n xs) (i:Int) (h0:0 ≤ i) (h1:i < n):∃ ad , A=some ad∧w.cell? (ad.add (i.toNat * 7))=some (.int .i64 (Ba xs i).f0)∧w.cell? ⟨(ad.add (i.toNat * 7)).block,(ad.add (i.toNat * 7)).off + 1,none⟩=some (.int .i64 (Ba xs i).f1)∧w.cell? ⟨(ad.add (i.toNat * 7)).block,(ad.add (i.toNat * 7)).off + 2,none⟩=some (.int .i64 (Ba xs i).f2)∧w.cell? ⟨(ad.add (i.toNat * 7)).block,(ad.add (i.toNat * 7)).off + 3,none⟩=some (.int .i64 (Ba xs i).f3)∧w.cell? ⟨(ad.add (i.toNat * 7)).block,(ad.add (i.toNat * 7)).off + 4,none⟩=some (.int .i64 (Ba xs i).f4)∧w.cell? ⟨(ad.add (i.toNat * 7)).block,(ad.add (i.toNat * 7)).off + 5,none⟩=some (.int .i64 (Ba xs i).f5)∧w.cell? ⟨(ad.add (i.toNat * 7)).block,(ad.add (i.toNat * 7)).off + 6,none⟩=some (.string (Ba xs i).f6):=by
 obtain ⟨ad,c,e,_,hK,hc0⟩:=Kd.cC h Cj i h0 h1;have hc:∀ j u,c[j]? = some u→w.cell? (ad.add (i.toNat * 7 + j))=some u:=hc0;obtain rfl:=GM hK;exact ⟨ad,e,hc 0 _ rfl,by rw [← Qf _ _ 1 (by omega)];exact hc 1 _ rfl,by rw [← Qf _ _ 2 (by omega)];exact hc 2 _ rfl,by rw [← Qf _ _ 3 (by omega)];exact hc 3 _ rfl,by rw [← Qf _ _ 4 (by omega)];exact hc 4 _ rfl,by rw [← Qf _ _ 5 (by omega)];exact hc 5 _ rfl,by rw [← Qf _ _ 6 (by omega)];exact hc 6 _ rfl⟩
structure zf where
 f0:(List Vc)
 f1:Int
 f2:Int
 f3:Int
 f4:Int
def uF:zf:=⟨([]:List Vc),(0:Int),(0:Int),(0:Int),(0:Int)⟩
def Bp:Kd zf:=Kd.jR (Kd.pair (Kd.slice 122 Pf) (Kd.pair (Kd.int .i64) (Kd.pair (Kd.int .i64) (Kd.pair (Kd.int .i64) (Kd.int .i64))))) (fun x:zf=>(x.f0,x.f1,x.f2,x.f3,x.f4))
theorem pO:Kd.Heap Bp:=Kd.uG _ (Kd.Yi (Kd.DI 122 IM) (Kd.Yi (Kd.Ui .i64) (Kd.Yi (Kd.Ui .i64) (Kd.Yi (Kd.Ui .i64) (Kd.Ui .i64)))))
theorem oO {w:World} {x:zf} {cs:List Value} (h:Bp.K w x cs):∃ A0 c0,cs=[.slice A0 x.f0.length c0,.int .i64 x.f1,.int .i64 x.f2,.int .i64 x.f3,.int .i64 x.f4]∧x.f0.length ≤ c0∧Pf.C w A0 x.f0.length x.f0:=by
 obtain ⟨_,_,rfl,⟨A0,c0,rfl,l0,g0⟩,⟨_,_,rfl,rfl,⟨_,_,rfl,rfl,⟨_,_,rfl,rfl,rfl⟩⟩⟩⟩:=h;exact ⟨A0,c0,rfl,l0,g0⟩
theorem zx {w:World} {base:Nat} {ok:Nat→Prop} {x:zf} {cs:List Value} (h:Bp.M w base ok x cs):∃ v0,cs=[v0,.int .i64 x.f1,.int .i64 x.f2,.int .i64 x.f3,.int .i64 x.f4]∧Pf.R 122 w base ok v0 x.f0:=by
 obtain ⟨_,_,rfl,⟨v0,rfl,g0⟩,⟨_,_,rfl,rfl,⟨_,_,rfl,rfl,⟨_,_,rfl,rfl,rfl⟩⟩⟩⟩:=h;exact ⟨v0,rfl,g0⟩
theorem wC (w:World) (base:Nat) (ok:Nat→Prop) (x:zf) {v0:Value} (g0:Pf.R 122 w base ok v0 x.f0):Bp.M w base ok x [v0,.int .i64 x.f1,.int .i64 x.f2,.int .i64 x.f3,.int .i64 x.f4]:=⟨[v0],[.int .i64 x.f1,.int .i64 x.f2,.int .i64 x.f3,.int .i64 x.f4],rfl,⟨v0,rfl,g0⟩,⟨[.int .i64 x.f1],[.int .i64 x.f2,.int .i64 x.f3,.int .i64 x.f4],rfl,rfl,⟨[.int .i64 x.f2],[.int .i64 x.f3,.int .i64 x.f4],rfl,rfl,⟨[.int .i64 x.f3],[.int .i64 x.f4],rfl,rfl,rfl⟩⟩⟩⟩
def Ta (xs:List zf) (i:Int):zf:=xs.getD i.toNat uF
theorem ek {w:World} {A:Option Addr} {n:Nat} {xs:List zf} (h:Kd.C Bp w A n xs) (i:Int) (h0:0 ≤ i) (h1:i < n):∃ ad A0 c0,A=some ad∧w.cell? (ad.add (i.toNat * 5))=some (.slice A0 (Ta xs i).f0.length c0)∧w.cell? ⟨(ad.add (i.toNat * 5)).block,(ad.add (i.toNat * 5)).off + 1,none⟩=some (.int .i64 (Ta xs i).f1)∧w.cell? ⟨(ad.add (i.toNat * 5)).block,(ad.add (i.toNat * 5)).off + 2,none⟩=some (.int .i64 (Ta xs i).f2)∧w.cell? ⟨(ad.add (i.toNat * 5)).block,(ad.add (i.toNat * 5)).off + 3,none⟩=some (.int .i64 (Ta xs i).f3)∧w.cell? ⟨(ad.add (i.toNat * 5)).block,(ad.add (i.toNat * 5)).off + 4,none⟩=some (.int .i64 (Ta xs i).f4)∧(Ta xs i).f0.length ≤ c0∧Pf.C w A0 (Ta xs i).f0.length (Ta xs i).f0:=by
 obtain ⟨ad,c,e,_,hK,hc0⟩:=Kd.cC h uF i h0 h1;have hc:∀ j u,c[j]? = some u→w.cell? (ad.add (i.toNat * 5 + j))=some u:=hc0;obtain ⟨A0,c0,rfl,l0,g0⟩:=oO hK;exact ⟨ad,A0,c0,e,hc 0 _ rfl,by rw [← Qf _ _ 1 (by omega)];exact hc 1 _ rfl,by rw [← Qf _ _ 2 (by omega)];exact hc 2 _ rfl,by rw [← Qf _ _ 3 (by omega)];exact hc 3 _ rfl,by rw [← Qf _ _ 4 (by omega)];exact hc 4 _ rfl,l0,g0⟩
structure S45 where
 f0:(List Int)
 f1:Int
 f2:Int
 f3:Int
 f4:(List zf)
def z45:S45:=⟨([]:List Int),(0:Int),(0:Int),(0:Int),([]:List zf)⟩
def Bk (xs:List (List Bool)) (i:Int):(List Bool):=xs.getD i.toNat ([]:List Bool)
theorem qQ {w:World} {A:Option Addr} {n:Nat} {xs:List (List Bool)} (h:Kd.C (Kd.slice 4 Kd.bool) w A n xs) (i:Int) (h0:0 ≤ i) (h1:i < n):∃ ad A0 c0,A=some ad∧w.cell? (ad.add i.toNat)=some (.slice A0 (Bk xs i).length c0)∧(Bk xs i).length ≤ c0∧Kd.bool.C w A0 (Bk xs i).length (Bk xs i):=by
 obtain ⟨ad,c,e,_,hK,hc0⟩:=Kd.cC h ([]:List Bool) i h0 h1;have hc:∀ j u,c[j]? = some u→w.cell? (ad.add (i.toNat * 1 + j))=some u:=hc0;obtain ⟨A0,c0,rfl,l0,g0⟩:=hK;exact ⟨ad,A0,c0,e,by have hq:=hc 0 _ rfl;rwa [Nat.mul_one,Nat.add_zero] at hq,l0,g0⟩
structure mN where
 f0:Int
 f1:Int
 f2:Int
 f3:ByteArray
 f4:(List mN)
def M4 (d:Kd mN):Kd mN:=Kd.jR (Kd.pair (Kd.int .i64) (Kd.pair (Kd.int .i64) (Kd.pair (Kd.int .i64) (Kd.pair Kd.string (Kd.slice 137 d))))) (fun x:mN=>(x.f0,x.f1,x.f2,x.f3,x.f4))
theorem rY:Kd.Sub M4 [137]:=Kd.IJ _ (Kd.wk (Kd.sub_const _ (by decide)) (Kd.wk (Kd.sub_const _ (by decide)) (Kd.wk (Kd.sub_const _ (by decide)) (Kd.wk (Kd.sub_const _ (by decide)) (Kd.jx 137 (by decide) Kd.UH)))))
theorem N5:∀ n,(Kd.upto M4 5 [137] n).sz=5:=Kd.FJ (fun _=>rfl)
def aam:Kd mN:=Kd.fix M4 5 [137] N5 (Kd.RH rY)
structure Kx where
 f0:Int
 f1:Int
 f2:Int
 f3:(List mN)
 f4:(List Kx)
 f5:(List Kx)
def N4 (d:Kd Kx):Kd Kx:=Kd.jR (Kd.pair (Kd.int .i64) (Kd.pair (Kd.int .i64) (Kd.pair (Kd.int .i64) (Kd.pair (Kd.slice 137 aam) (Kd.pair (Kd.slice 133 d) (Kd.slice 133 d)))))) (fun x:Kx=>(x.f0,x.f1,x.f2,x.f3,x.f4,x.f5))
theorem sY:Kd.Sub N4 [133,137]:=Kd.IJ _ (Kd.wk (Kd.sub_const _ (by decide)) (Kd.wk (Kd.sub_const _ (by decide)) (Kd.wk (Kd.sub_const _ (by decide)) (Kd.wk (Kd.sub_const _ (by decide)) (Kd.wk (Kd.jx 133 (by decide) Kd.UH) (Kd.jx 133 (by decide) Kd.UH))))))
theorem O5:∀ n,(Kd.upto N4 6 [133,137] n).sz=6:=Kd.FJ (fun _=>rfl)
def bam:Kd Kx:=Kd.fix N4 6 [133,137] O5 (Kd.RH sY)
theorem fO {α:Type} {d:Kd α} {e:Nat} {w:World} {base:Nat} {ok:Nat→Prop} {v:Value} {xs:List α} (h:ga (d.R e w base ok v xs)):v.oneCell' = true:=by
 obtain ⟨A,c,rfl⟩:=Kd.Jd h.out
 rfl
theorem eO {α:Type} {d:Kd α} {e:Nat} {w:World} {base:Nat} {ok:Nat→Prop} {v:Value} {xs:List α} (h:ga (d.S e w base ok v xs)):v.oneCell' = true:=by
 obtain ⟨A,c,rfl⟩:=Kd.Jd (Kd.wN h.out)
 rfl
theorem jO {α:Type} {d:Kd α} {e:Nat} {w:World} {base:Nat} {ok:Nat→Prop} {v:Value} {xs:List α} (h:ga (Kd.N d e w base ok v xs)):v.oneCell' = true:=by
 obtain ⟨A,c,rfl⟩:=Kd.BV h.out
 rfl
theorem iO {α:Type} {d:Kd α} {e:Nat} {w:World} {base:Nat} {ok:Nat→Prop} {v:Value} {xs:List α} (h:ga (d.Q e w base ok v xs)):v.oneCell' = true:=by
 obtain ⟨A,c,rfl,_⟩:=Kd.Ww h.out
 rfl
def gm (P:Program) (t:TypeId) {α:Type} (d:Kd α) (fit:α→Prop):Prop :=
 ∀ {H:Type} {enc:TypeId × Value→H} {w:World} {base:Nat} {spare:Nat→Bool} {held:Bool} {fuel:Nat} {cs:List Value} {x:DataW H × List MemPlace},
  DataW.trod enc P w base spare held fuel t cs=some x→∃ a:α,d.K w a cs∧fit a
theorem BM {P:Program} {t:TypeId} {k:IntKind} (ht:P.underlying t=some (.int k)):gm P t (Kd.int k) (fun n=>(Lit.int k n).wf=true):=by
 intro H enc w base spare held fuel cs x h;obtain ⟨n,rfl,_,hw⟩:=DataW.trod_int ht h;exact ⟨n,rfl,hw⟩
def Vq (n:Int):Prop:=-9223372036854775808 ≤ n∧n ≤ 9223372036854775807
theorem wf_i64 {n:Int} (h:(Lit.int .i64 n).wf=true):Vq n:=by
 simp [Lit.wf,IntKind.min,IntKind.max,IntKind.signed,IntKind.bits] at h;unfold Vq;omega
theorem Og {P:Program} {t:TypeId} (ht:P.underlying t=some (.int .i64)):gm P t (Kd.int .i64) Vq:=by
 intro H enc w base spare held fuel cs x h;obtain ⟨n,h1,h2⟩:=BM ht h;exact ⟨n,h1,wf_i64 h2⟩
theorem sC {P:Program} {t:TypeId} (ht:P.underlying t=some .string):gm P t Kd.string (fun s=>s.size ≤ 9223372036854775807):=by
 intro H enc w base spare held fuel cs x h;obtain ⟨s,rfl,_,hw⟩:=DataW.trod_string ht h;exact ⟨s,rfl,by simpa [maxLen] using hw⟩
theorem Ux {α:Type} {p:Nat→α→Prop}:∀ n,(∀ i,i < n→∃ a,p i a)→∃ xs:List α,xs.length=n∧∀ (i:Nat) (a:α),xs[i]? = some a→p i a
 | 0,_=>⟨[],rfl,fun i a h=>by simp at h⟩
 | n + 1,h=>by
  obtain ⟨xs,hl,hx⟩:=Ux n (fun i hi=>h i (by omega));obtain ⟨a,ha⟩:=h n (by omega);refine ⟨xs ++ [a],by simp [hl],fun i b hb=>?_⟩
  rcases Nat.lt_or_ge i xs.length with hi|hi
  ·rw [List.getElem?_append_left hi] at hb;exact hx i b hb
  ·have:i=n:=by
    have:=(List.getElem?_eq_some_iff.1 hb).1;simp [hl] at this;omega
   subst this;rw [List.getElem?_append_right hi,hl] at hb;simp at hb;exact hb ▸ ha
theorem sr {P:Program} {t e e':TypeId} {α:Type} {d:Kd α} {fit:α→Prop} (ht:P.underlying t=some (.slice e)) (hs:P.cellsOf e=d.sz) (h:gm P e d fit):gm P t (Kd.slice e' d) (fun l=>l.length ≤ 9223372036854775807∧∀ a ∈ l,fit a):=by
 intro H enc w base spare held fuel cs x hx
 rcases Go.Deep.open_slice ht hx with ⟨rfl,_⟩|⟨a,len,cap,m,n,D,Pl,rfl,hb,hl,hm,hmm,_,hel⟩
 ·exact ⟨[],⟨none,0,rfl,Nat.le_refl _,rfl,by simp,fun hp=>absurd hp (by simp)⟩,by simp,by simp⟩
 ·have hle:len ≤ m:=by rw [hmm];split <;> omega
  have W6:len ≤ 9223372036854775807:=by simp only [maxLen] at hm;omega
  obtain ⟨xs,hxl,hxs⟩:=Ux (α:=α) (p:=fun i y=>∃ c,c.length=d.sz∧d.K w y c∧(∀ j u,c[j]? = some u→w.cell? (a.add (i * d.sz + j))=some u)∧fit y) len (fun i hi=>by
   obtain ⟨cs',h1,h2⟩:=hel i (by omega);obtain ⟨y,hy,hf⟩:=h h2;obtain ⟨_,WA,ry⟩:=World.cells?_some h1;refine ⟨y,cs',by rw [WA,hs],hy,fun j u hu=>?_,hf⟩;have hj:j < P.cellsOf e:=by rw [← WA];exact (List.getElem?_eq_some_iff.1 hu).1
   rw [← hs,← Go.Deep.add_add,ry j hj]
   exact hu)
  refine ⟨xs,⟨some a,cap,by rw [hxl],by omega,rfl,by omega,fun _=>⟨a,rfl,fun j p hj=>?_⟩⟩,by omega,fun y hy=>?_⟩
  ·obtain ⟨c,h1,h2,h3,_⟩:=hxs j p hj;exact ⟨c,h1,h2,h3⟩
  ·obtain ⟨i,hi,rfl⟩:=List.getElem_of_mem hy;obtain ⟨c,_,_,_,h4⟩:=hxs i _ (List.getElem?_eq_getElem hi);exact h4
def lF (P:Program) (fs:List Field) (off:Nat) {α:Type} (d:Kd α) (fit:α→Prop):Prop :=
 ∀ {H:Type} {enc:TypeId × Value→H} {w:World} {base:Nat} {spare:Nat→Bool} {held:Bool} {n:Nat} {cs:List Value},
  (∀ f ∈ fs,∃ y,DataW.trod enc P w base spare held n f.type ((cs.drop f.offset).take (P.cellsOf f.type))=some y)→cs.length=off + d.sz→∃ a:α,d.K w a (cs.drop off)∧fit a
theorem ku {P:Program} {f:Field} {off:Nat} {α:Type} {d:Kd α} {fit:α→Prop} (ho:f.offset=off) (hs:P.cellsOf f.type=d.sz) (h:gm P f.type d fit):lF P [f] off d fit:=by
 intro H enc w base spare held n cs hf hl;obtain ⟨y,hy⟩:=hf f (by simp);rw [ho,hs,List.take_of_length_le (by rw [List.length_drop];omega)] at hy;exact h hy
theorem ig {P:Program} {f:Field} {fs:List Field} {off off2:Nat} {α β:Type} {d:Kd α} {d2:Kd β} {fit:α→Prop} {Daa:β→Prop} (ho:f.offset=off) (hs:P.cellsOf f.type=d.sz) (ho2:off2=off + d.sz) (h:gm P f.type d fit) (h2:lF P fs off2 d2 Daa):lF P (f :: fs) off (Kd.pair d d2) (fun p=>fit p.1∧Daa p.2):=by
 intro H enc w base spare held n cs hf hl;have hl':cs.length=off + (d.sz + d2.sz):=hl;obtain ⟨y,hy⟩:=hf f (by simp);rw [ho,hs] at hy;obtain ⟨a,ha,fa⟩:=h hy;obtain ⟨b,hb,fb⟩:=h2 (fun g hg=>hf g (List.mem_cons_of_mem _ hg)) (by omega);refine ⟨(a,b),⟨(cs.drop off).take d.sz,cs.drop off2,?_,ha,hb⟩,fa,fb⟩;rw [ho2,← List.drop_drop,List.take_append_drop]
theorem Wp {P:Program} {t:TypeId} {fs:Array Field} {α:Type} {d:Kd α} {fit:α→Prop} (ht:P.underlying t=some (.struct fs)) (hs:P.cellsOf t=d.sz) (h:lF P fs.toList 0 d fit):gm P t d fit:=by
 intro H enc w base spare held fuel cs x hx;obtain ⟨xs,n,_,_,hl,hxl,hf⟩:=DataW.trod_struct ht hx
 have:=h (w:=w) (enc:=enc) (base:=base) (spare:=spare) (held:=held) (n:=n) (cs:=cs) (fun f hfm=>by
  obtain ⟨i,hi,rfl⟩:=List.getElem_of_mem hfm;have hi':i < fs.size:=by simpa using hi
  have h1:=hf i (fs.toList[i]) (by simp [hi']);rw [List.getElem?_eq_getElem (by omega)] at h1
  exact ⟨_,h1⟩) (by omega)
 simpa using this
theorem xx {P:Program} {t:TypeId} {α β:Type} {d:Kd α} {fit:α→Prop} {g:β→α} (gi:α→β) (hg:∀ a,g (gi a)=a) (h:gm P t d fit):gm P t (Kd.jR d g) (fun b=>fit (g b)):=by
 intro H enc w base spare held fuel cs x hx;obtain ⟨a,ha,hf⟩:=h hx;refine ⟨gi a,?_,?_⟩
 ·show d.K w (g (gi a)) cs
  rw [hg];exact ha
 ·show fit (g (gi a))
  rw [hg];exact hf
theorem dO {P:Program} {t:TypeId} {fs:Array Field} {α:Type} {d:Kd α} {fit:α→Prop} {r:Reach} {b0:Nat} {H:Type} {enc:TypeId × Value→H} {w:World} {base:Nat} {spare:Nat→Bool} {held:Bool} {v:Value} {dt:DataW H} {p:List MemPlace}
  (ht:P.underlying t=some (.struct fs)) (h:gm P t d fit) (hv:Value.okWide P w r b0 t v) (hd:DataW.Trod enc P w base spare held t v dt p) :
  ∃ (a:α) (cs:Array Value),v = .agg cs∧d.K w a cs.toList∧fit a:=by
 obtain ⟨cs,rfl,hsz⟩:=Go.WideShapes.okWide_struct ht hv;obtain ⟨fuel,hf⟩:=hd;obtain ⟨a,ha,hfa⟩:=h hf;exact ⟨a,cs,rfl,by simpa [Value.cells] using ha,hfa⟩
theorem VR:gm Try.prog 22 (Kd.slice 3 (Kd.int .i64)) (fun l=>l.length ≤ 9223372036854775807∧∀ a ∈ l,Vq a):=sr Try.underlying22 (by kernel_rfl) (Og Try.underlying3)
def KI (x:dm):Prop:=Vq x.f0∧Vq x.f1∧Vq x.f2∧Vq x.f3∧Vq x.f4∧Vq x.f5∧(fun s=>s.size ≤ 9223372036854775807) x.f6
theorem ZN:gm Try.prog 141 fA KI:=xx (fun p=>⟨p.1,p.2.1,p.2.2.1,p.2.2.2.1,p.2.2.2.2.1,p.2.2.2.2.2.1,p.2.2.2.2.2.2⟩) (fun _=>rfl) (Wp Try.underlying141 (by kernel_rfl) (ig rfl (by kernel_rfl) (by kernel_rfl) (Og Try.underlying3) (ig rfl (by kernel_rfl) (by kernel_rfl) (Og Try.underlying3) (ig rfl (by kernel_rfl) (by kernel_rfl) (Og Try.underlying3) (ig rfl (by kernel_rfl) (by kernel_rfl) (Og Try.underlying3) (ig rfl (by kernel_rfl) (by kernel_rfl) (Og Try.underlying3) (ig rfl (by kernel_rfl) (by kernel_rfl) (Og Try.underlying3) (ku rfl (by kernel_rfl) (sC Try.underlying9)))))))))
theorem cO:gm Try.prog 104 (Kd.slice 141 fA) (fun l=>l.length ≤ 9223372036854775807∧∀ a ∈ l,KI a):=sr Try.underlying104 (by kernel_rfl) ZN
def LI (x:fk):Prop:=(fun l=>l.length ≤ 9223372036854775807∧∀ a ∈ l,KI a) x.f0∧Vq x.f1∧Vq x.f2∧Vq x.f3∧Vq x.f4
theorem bO:gm Try.prog 106 gA LI:=xx (fun p=>⟨p.1,p.2.1,p.2.2.1,p.2.2.2.1,p.2.2.2.2⟩) (fun _=>rfl) (Wp Try.underlying106 (by kernel_rfl) (ig rfl (by kernel_rfl) (by kernel_rfl) cO (ig rfl (by kernel_rfl) (by kernel_rfl) (Og Try.underlying3) (ig rfl (by kernel_rfl) (by kernel_rfl) (Og Try.underlying3) (ig rfl (by kernel_rfl) (by kernel_rfl) (Og Try.underlying3) (ku rfl (by kernel_rfl) (Og Try.underlying3)))))))
theorem UR:gm Try.prog 38 (Kd.slice 106 gA) (fun l=>l.length ≤ 9223372036854775807∧∀ a ∈ l,LI a):=sr Try.underlying38 (by kernel_rfl) bO
def KP (x:j5):Prop:=(fun l=>l.length ≤ 9223372036854775807∧∀ a ∈ l,Vq a) x.f0∧Vq x.f1∧Vq x.f2∧Vq x.f3∧(fun l=>l.length ≤ 9223372036854775807∧∀ a ∈ l,LI a) x.f4
theorem TR:gm Try.prog 40 k40 KP:=xx (fun p=>⟨p.1,p.2.1,p.2.2.1,p.2.2.2.1,p.2.2.2.2⟩) (fun _=>rfl) (Wp Try.underlying40 (by kernel_rfl) (ig rfl (by kernel_rfl) (by kernel_rfl) VR (ig rfl (by kernel_rfl) (by kernel_rfl) (Og Try.underlying3) (ig rfl (by kernel_rfl) (by kernel_rfl) (Og Try.underlying3) (ig rfl (by kernel_rfl) (by kernel_rfl) (Og Try.underlying3) (ku rfl (by kernel_rfl) UR))))))
def Je.l0:Nat→List ByteArray→ByteArray→Int→Option (Bool)
 | 0,_,_,_=>none
 | k + 1,x0,x1,x5=>if x5 < (x0.length:Int) then (if 0 ≤ x5 then (if (sg ByteArray.empty x0 x5).toList=x1.toList then (some true) else (Je.l0 k x0 x1 (wrap64 (x5 + 1)))) else (none)) else (some false)
def Je.f (k:Nat) (l0:List ByteArray) (a1:ByteArray):Option (Bool):=Je.l0 k l0 a1 0
theorem Je.calls (k:Nat) (A0:Option Addr) (c0:Nat) (l0:List ByteArray) (a1:ByteArray) (r:Bool) (w:World) (Si:Kd.C Kd.string w A0 l0.length l0) (hc0:l0.length ≤ c0) (h:Je.f k l0 a1=some r) :
  Calls Try.prog 135 #[.slice A0 l0.length c0,.string a1] w fun e w'=>e = .returned (.bool r)∧fc w w':=by
 have fl:=ga.mk Si;have vB:=ga.mk hc0;clear Si hc0;have H:(Je.l0 k l0 a1 0)=some r:=h;clear h;have H':=ga.mk H;clear H;go_enter Try.func135,Try.ntmps135;go_wp2
 go_loopg [5] k (fun kq v5 w'=>∃ (Aa:Int),v5 = .int .i64 Aa∧ga (Je.l0 kq l0 a1 Aa=some r)∧ga (kq ≤ k)∧fc w w')
 case atStart=>exact ⟨(0),(by first|rfl|(simp;done)|(simp [*];done)),H',⟨Nat.le_refl _⟩,by repeat (first|exact fc.refl _|apply fc.step)⟩
 case round =>
  clear H'
  try clear c1
  try clear p2
  (try clear HA);(try clear Gf);obtain ⟨Aa,rfl,HA,Gf,⟨m1,rfl⟩⟩:=hrel;cases gk with
  | zero=>exact absurd HA.out (by simp [Je.l0])
  | succ k1 =>
   have H:=HA.out;clear HA;simp only [Je.l0] at H
   by_cases c3:Aa < (l0.length:Int)
   ·rw [if_pos c3] at H;have Cg:decide (Aa < (l0.length:Int))=true:=decide_eq_true c3;clear c3
    by_cases c4:0 ≤ Aa
    ·rw [if_pos c4] at H;have Aj:decide (0 ≤ Aa)=true:=decide_eq_true c4;clear c4
     by_cases c5:(sg ByteArray.empty l0 Aa).toList=a1.toList
     ·rw [if_pos c5] at H;have Al:((sg ByteArray.empty l0 Aa).toList == a1.toList)=true:=beq_iff_eq.mpr c5;have Ex:((sg ByteArray.empty l0 Aa).toList != a1.toList)=false:=bne_eq_false_iff_eq.mpr c5;clear c5;obtain rfl:=Option.some.inj H;have Ee:0 ≤ (Aa:Int):=of_decide_eq_true (by first|(with_reducible assumption)|assumption);have De:Aa < (l0.length:Int):=of_decide_eq_true (by first|(with_reducible assumption)|assumption);obtain ⟨je,Ih,xd⟩:=Kd.Dt fl.out Aa Ee De;cases Ih;replace Ee:=eq_true Ee;replace De:=eq_true De;go_wp2;go_ret;exact ⟨by first|rfl|(simp;done)|(simp [*];done),by repeat (first|exact fc.refl _|apply fc.step)⟩
     ·rw [if_neg c5] at H;have Al:((sg ByteArray.empty l0 Aa).toList == a1.toList)=false:=beq_eq_false_iff_ne.mpr c5;have Ex:((sg ByteArray.empty l0 Aa).toList != a1.toList)=true:=bne_iff_ne.mpr c5;have H':=ga.mk H;clear H;have Ee:0 ≤ (Aa:Int):=of_decide_eq_true (by first|(with_reducible assumption)|assumption);have De:Aa < (l0.length:Int):=of_decide_eq_true (by first|(with_reducible assumption)|assumption);obtain ⟨je,Ih,xd⟩:=Kd.Dt fl.out Aa Ee De;cases Ih;replace Ee:=eq_true Ee;replace De:=eq_true De;go_wp2
      go_roundg k1
      case measure=>have:=Gf.out;omega
      case rel=>exact ⟨(wrap64 (Aa + 1)),(by first|rfl|(simp;done)|(simp [*];done)),H',⟨by have:=Gf.out;omega⟩,by repeat (first|exact fc.refl _|apply fc.step)⟩
    ·rw [if_neg c4] at H;exact absurd H (by simp)
   ·rw [if_neg c3] at H;have Cg:decide (Aa < (l0.length:Int))=false:=decide_eq_false c3;clear c3;obtain rfl:=Option.some.inj H;go_wp2;go_ret;exact ⟨by first|rfl|(simp;done)|(simp [*];done),by repeat (first|exact fc.refl _|apply fc.step)⟩
def Za.f (a0:Int) (a1:Int) (a2:Int):Option (Bool):=if a0 ≥ a1 then (some (decide (a0 ≤ a2))) else (some false)
theorem Za.calls (a0:Int) (a1:Int) (a2:Int) (r:Bool) (w:World) (h:Za.f a0 a1 a2=some r) :
  Calls Try.prog 81 #[.int .i64 a0,.int .i64 a1,.int .i64 a2] w fun e w'=>e = .returned (.bool r)∧fc w w':=by
 have H:(if a0 ≥ a1 then (some (decide (a0 ≤ a2))) else (some false))=some r:=h;clear h
 by_cases c4:a0 ≥ a1
 ·rw [if_pos c4] at H;have Aj:decide (a1 ≤ a0)=true:=decide_eq_true c4;clear c4;obtain rfl:=Option.some.inj H;go_enter Try.func81,Try.ntmps81;go_wp2;go_ret;exact ⟨by first|rfl|(simp;done)|(simp [*];done),by repeat (first|exact fc.refl _|apply fc.step)⟩
 ·rw [if_neg c4] at H;have Aj:decide (a1 ≤ a0)=false:=decide_eq_false c4;clear c4;obtain rfl:=Option.some.inj H;go_enter Try.func81,Try.ntmps81;go_wp2;go_ret;exact ⟨by first|rfl|(simp;done)|(simp [*];done),by repeat (first|exact fc.refl _|apply fc.step)⟩
mutual
def mb.j0:Nat→Bool→Bool→Bool→Bool→List Int→Int→Int→Int→List (zf)→Int→Int→Int→Int→Int→Int→ByteArray→Option (Bool)
 | 0,_,_,_,_,_,_,_,_,_,_,_,_,_,_,_,_=>none
 | k + 1,x5,x6,x7,x8,Tc,Uc,Sc,Rc,Zb,dg,Dj,Tj,ej,cj,El,Tn=>if dg=2 then (if dg=4 then (mb.j1 k x5 x6 x7 x8 false Tc Uc Sc Rc Zb dg Dj Tj ej cj El Tn) else (mb.j1 k x5 x6 x7 x8 (cj != 0) Tc Uc Sc Rc Zb dg Dj Tj ej cj El Tn)) else (if Tn.toList=([]:List UInt8) then (if dg=4 then (mb.j1 k x5 x6 x7 x8 false Tc Uc Sc Rc Zb dg Dj Tj ej cj El Tn) else (mb.j1 k x5 x6 x7 x8 (cj != 0) Tc Uc Sc Rc Zb dg Dj Tj ej cj El Tn)) else (mb.j1 k x5 x6 x7 x8 true Tc Uc Sc Rc Zb dg Dj Tj ej cj El Tn))
def mb.j1:Nat→Bool→Bool→Bool→Bool→Bool→List Int→Int→Int→Int→List (zf)→Int→Int→Int→Int→Int→Int→ByteArray→Option (Bool)
 | 0,_,_,_,_,_,_,_,_,_,_,_,_,_,_,_,_,_=>none
 | k + 1,x5,x6,x7,x8,x62,Tc,Uc,Sc,Rc,Zb,dg,Dj,Tj,ej,cj,El,Tn=>if x62=true then (some false) else (if dg=0 then (if x5=true then (if Tj=0 then (some (ej == 0)) else (some false)) else (some false)) else (if dg=1 then (if x5=true then (if x6=true then (if ej=0 then (some (El == 0)) else (some false)) else (some false)) else (some false)) else (if dg=2 then (if x5=true then (if x6=true then (if x7=true then (if El=0 then ((Je.f k (([(⟨#[61,61]⟩:ByteArray),(⟨#[60]⟩:ByteArray),(⟨#[38]⟩:ByteArray),(⟨#[43]⟩:ByteArray),(⟨#[45]⟩:ByteArray),(⟨#[42]⟩:ByteArray)]:List ByteArray)) Tn).bind fun t111=>(some t111)) else (some false)) else (some false)) else (some false)) else (some false)) else (if dg=3 then (if x5=true then (some x8) else (some false)) else (if dg=4 then (if Dj=0 then (if x8=true then ((Za.f cj 0 (wrap64 (Rc - 1))).bind fun t112=>(some t112)) else (some false)) else (some false)) else (if dg=5 then (if x5=true then (if Tj=0 then (if ej=0 then (some (El == 0)) else (some false)) else (some false)) else (some false)) else (if dg=6 then (if Dj=0 then (if x6=true then (if ej=0 then (some (El == 0)) else (some false)) else (some false)) else (some false)) else (some false))))))))
end
def mb.f (k:Nat) (Oa:List Int) (La:Int) (Pa:Int) (Ja:Int) (Fa:List (zf)) (Ic:Int) (Ub:Int) (Nb:Int) (Ob:Int) (oc:Int) (Yc:Int) (Dd:ByteArray):Option (Bool):=(Za.f Ub 0 (wrap64 (Ja - 1))).bind fun t103=>((Za.f Nb 0 (wrap64 (Ja - 1))).bind fun t104=>((Za.f Ob 0 (wrap64 (Ja - 1))).bind fun t105=>(if t104=true then (if t105=true then ((Za.f Yc 0 (wrap64 ((Oa.length:Int) - 1))).bind fun t106=>(mb.j0 k t103 t104 t105 t106 Oa La Pa Ja Fa Ic Ub Nb Ob oc Yc Dd)) else (mb.j0 k t103 t104 t105 false Oa La Pa Ja Fa Ic Ub Nb Ob oc Yc Dd)) else (if Nb=(-1) then (if t105=true then ((Za.f Yc 0 (wrap64 ((Oa.length:Int) - 1))).bind fun t107=>(mb.j0 k t103 t104 t105 t107 Oa La Pa Ja Fa Ic Ub Nb Ob oc Yc Dd)) else (mb.j0 k t103 t104 t105 false Oa La Pa Ja Fa Ic Ub Nb Ob oc Yc Dd)) else (mb.j0 k t103 t104 t105 false Oa La Pa Ja Fa Ic Ub Nb Ob oc Yc Dd)))))
theorem mb.calls (k:Nat) (xb:Option Addr) (qb:Nat) (Oa:List Int) (La:Int) (Pa:Int) (Ja:Int) (Pb:Option Addr) (Gb:Nat) (Fa:List (zf)) (Ic:Int) (Ub:Int) (Nb:Int) (Ob:Int) (oc:Int) (Yc:Int) (Dd:ByteArray) (r:Bool) (w:World) (xe:Kd.C (Kd.int .i64) w xb Oa.length Oa) (we:Oa.length ≤ qb) (Wf:Kd.C Bp w Pb Fa.length Fa) (Uf:Fa.length ≤ Gb) (h:mb.f k Oa La Pa Ja Fa Ic Ub Nb Ob oc Yc Dd=some r) :
  Calls Try.prog 121 #[.agg #[.slice xb Oa.length qb,.int .i64 La,.int .i64 Pa,.int .i64 Ja,.slice Pb Fa.length Gb],.agg #[.int .i64 Ic,.int .i64 Ub,.int .i64 Nb,.int .i64 Ob,.int .i64 oc,.int .i64 Yc,.string Dd]] w fun e w'=>e = .returned (.bool r)∧Below w.heap.size w w':=by
 have mA:=Try.underlying45;have gG:=Try.underlying122;have Ue:=ga.mk xe;have af:=ga.mk we;clear xe we;have ng:=ga.mk Wf;have Xg:=ga.mk Uf;clear Wf Uf;have HB:=ga.mk (Below.refl w.heap.size w);have H:((Za.f Ub 0 (wrap64 (Ja - 1))).bind fun t103=>((Za.f Nb 0 (wrap64 (Ja - 1))).bind fun t104=>((Za.f Ob 0 (wrap64 (Ja - 1))).bind fun t105=>(if t104=true then (if t105=true then ((Za.f Yc 0 (wrap64 ((Oa.length:Int) - 1))).bind fun t106=>(mb.j0 k t103 t104 t105 t106 Oa La Pa Ja Fa Ic Ub Nb Ob oc Yc Dd)) else (mb.j0 k t103 t104 t105 false Oa La Pa Ja Fa Ic Ub Nb Ob oc Yc Dd)) else (if Nb=(-1) then (if t105=true then ((Za.f Yc 0 (wrap64 ((Oa.length:Int) - 1))).bind fun t107=>(mb.j0 k t103 t104 t105 t107 Oa La Pa Ja Fa Ic Ub Nb Ob oc Yc Dd)) else (mb.j0 k t103 t104 t105 false Oa La Pa Ja Fa Ic Ub Nb Ob oc Yc Dd)) else (mb.j0 k t103 t104 t105 false Oa La Pa Ja Fa Ic Ub Nb Ob oc Yc Dd))))))=some r:=h;clear h;replace H:=Option.bind_eq_some_iff.mp H;obtain ⟨t103,SA,H⟩:=H;replace H:((Za.f Nb 0 (wrap64 (Ja - 1))).bind fun t104=>((Za.f Ob 0 (wrap64 (Ja - 1))).bind fun t105=>(if t104=true then (if t105=true then ((Za.f Yc 0 (wrap64 ((Oa.length:Int) - 1))).bind fun t106=>(mb.j0 k t103 t104 t105 t106 Oa La Pa Ja Fa Ic Ub Nb Ob oc Yc Dd)) else (mb.j0 k t103 t104 t105 false Oa La Pa Ja Fa Ic Ub Nb Ob oc Yc Dd)) else (if Nb=(-1) then (if t105=true then ((Za.f Yc 0 (wrap64 ((Oa.length:Int) - 1))).bind fun t107=>(mb.j0 k t103 t104 t105 t107 Oa La Pa Ja Fa Ic Ub Nb Ob oc Yc Dd)) else (mb.j0 k t103 t104 t105 false Oa La Pa Ja Fa Ic Ub Nb Ob oc Yc Dd)) else (mb.j0 k t103 t104 t105 false Oa La Pa Ja Fa Ic Ub Nb Ob oc Yc Dd)))))=some r:=H;have A3:=ga.mk SA;clear SA;replace H:=Option.bind_eq_some_iff.mp H;obtain ⟨t104,AH,H⟩:=H;replace H:((Za.f Ob 0 (wrap64 (Ja - 1))).bind fun t105=>(if t104=true then (if t105=true then ((Za.f Yc 0 (wrap64 ((Oa.length:Int) - 1))).bind fun t106=>(mb.j0 k t103 t104 t105 t106 Oa La Pa Ja Fa Ic Ub Nb Ob oc Yc Dd)) else (mb.j0 k t103 t104 t105 false Oa La Pa Ja Fa Ic Ub Nb Ob oc Yc Dd)) else (if Nb=(-1) then (if t105=true then ((Za.f Yc 0 (wrap64 ((Oa.length:Int) - 1))).bind fun t107=>(mb.j0 k t103 t104 t105 t107 Oa La Pa Ja Fa Ic Ub Nb Ob oc Yc Dd)) else (mb.j0 k t103 t104 t105 false Oa La Pa Ja Fa Ic Ub Nb Ob oc Yc Dd)) else (mb.j0 k t103 t104 t105 false Oa La Pa Ja Fa Ic Ub Nb Ob oc Yc Dd))))=some r:=H;have A4:=ga.mk AH;clear AH;replace H:=Option.bind_eq_some_iff.mp H;obtain ⟨t105,cY,H⟩:=H;replace H:(if t104=true then (if t105=true then ((Za.f Yc 0 (wrap64 ((Oa.length:Int) - 1))).bind fun t106=>(mb.j0 k t103 t104 t105 t106 Oa La Pa Ja Fa Ic Ub Nb Ob oc Yc Dd)) else (mb.j0 k t103 t104 t105 false Oa La Pa Ja Fa Ic Ub Nb Ob oc Yc Dd)) else (if Nb=(-1) then (if t105=true then ((Za.f Yc 0 (wrap64 ((Oa.length:Int) - 1))).bind fun t107=>(mb.j0 k t103 t104 t105 t107 Oa La Pa Ja Fa Ic Ub Nb Ob oc Yc Dd)) else (mb.j0 k t103 t104 t105 false Oa La Pa Ja Fa Ic Ub Nb Ob oc Yc Dd)) else (mb.j0 k t103 t104 t105 false Oa La Pa Ja Fa Ic Ub Nb Ob oc Yc Dd)))=some r:=H;have A5:=ga.mk cY;clear cY;have HC6:=ga.mk H;clear H;go_enter Try.func121,Try.ntmps121
 go_upto_region 4 with (first|((with_reducible refine Db (N:=2) rfl ?_);(try (refine Oi (by rfl) ?_;dsimp only));refine Jb ?hg (N:=2) ?hd (cs:=#[.slice xb Oa.length qb,.int .i64 La,.int .i64 Pa,.int .i64 Ja,.slice Pb Fa.length Gb]) (t:=45) ?hr ?_;(case hd=>rfl);(case hg=>rfl);(case hr=>first|(go_simp;done)|(go_simp;rfl));intro za hg w7 Wb hb;have Fb:=ga.mk (Qa (by repeat (first|(with_reducible first|exact HB.out|apply oa|apply ia|apply qa)|exact HB.out)) hb);have Lb:=ga.mk (Wb);have Vb:=ga.mk ((by rw [hg];exact (Ka (by repeat (first|(with_reducible first|exact HB.out|apply oa|apply ia|apply qa)|exact HB.out))):w.heap.size ≤ za));have Bc:=ga.mk ((by rw [hg];exact (Ka (by repeat (first|(with_reducible first|exact HB.out|apply oa|apply ia|apply qa)|exact HB.out))):w.heap.size ≤ za));clear HB;have HB:=Fb;have ta:=Lb;have ye:=Vb;have Sa:=Bc;clear Fb Lb Vb Bc hb Wb hg)|((with_reducible refine Db (N:=3) rfl ?_);(try (refine Oi (by rfl) ?_;dsimp only));refine Jb ?hg (N:=3) ?hd (cs:=#[.int .i64 Ic,.int .i64 Ub,.int .i64 Nb,.int .i64 Ob,.int .i64 oc,.int .i64 Yc,.string Dd]) (t:=122) ?hr ?_;(case hd=>rfl);(case hg=>rfl);(case hr=>first|(go_simp;done)|(go_simp;rfl));intro Ga hg w8 Wb hb;have Fb:=ga.mk (Va (g:=za) (o:=.cells #[.slice xb Oa.length qb,.int .i64 La,.int .i64 Pa,.int .i64 Ja,.slice Pb Fa.length Gb] 45 (0,0)) (by (with_reducible repeat (first|refine Ca ?_ _|refine Ea ?_|refine Da ?_ _));exact ta.out) hb);have Lb:=ga.mk (Qa (by repeat (first|(with_reducible first|exact HB.out|apply oa|apply ia|apply qa|refine ua ?_ Sa.out)|exact HB.out)) hb);have Vb:=ga.mk (Wb);have Bc:=ga.mk ((by rw [hg];exact (Ka (by repeat (first|(with_reducible first|exact HB.out|apply oa|apply ia|apply qa|refine ua ?_ Sa.out)|exact HB.out))):w.heap.size ≤ Ga));have Ge:=ga.mk ((by rw [hg];exact (Ka (by repeat (first|(with_reducible first|exact HB.out|apply oa|apply ia|apply qa|refine ua ?_ Sa.out)|exact HB.out))):w.heap.size ≤ Ga));have Zf:=ga.mk ((by rw [hg];exact Nat.ne_of_lt (Qc (g:=za) (o:=.cells #[.slice xb Oa.length qb,.int .i64 La,.int .i64 Pa,.int .i64 Ja,.slice Pb Fa.length Gb] 45 (0,0)) (by (with_reducible repeat (first|refine Ca ?_ _|refine Ea ?_|refine Da ?_ _));exact ta.out)):za ≠ Ga));have Dh:=ga.mk ((by rw [hg];exact Nat.ne_of_gt (Qc (g:=za) (o:=.cells #[.slice xb Oa.length qb,.int .i64 La,.int .i64 Pa,.int .i64 Ja,.slice Pb Fa.length Gb] 45 (0,0)) (by (with_reducible repeat (first|refine Ca ?_ _|refine Ea ?_|refine Da ?_ _));exact ta.out)):Ga ≠ za));clear ta HB;have ta:=Fb;have HB:=Lb;have ya:=Vb;have qj:=Bc;have qc:=Ge;have Cb:=Zf;have Bb:=Dh;clear Fb Lb Vb Bc Ge Zf Dh hb Wb hg;have Nam:=Bb.out;have zam:=Cb.out;have Ni:w8.cell? ⟨Ga,0,none⟩=some (.int .i64 Ic):=(ja ya.out 0).trans rfl;have Mi:w8.cell? ⟨Ga,1,none⟩=some (.int .i64 Ub):=(ja ya.out 1).trans rfl;have Li:w8.cell? ⟨Ga,2,none⟩=some (.int .i64 Nb):=(ja ya.out 2).trans rfl;have Ki:w8.cell? ⟨Ga,3,none⟩=some (.int .i64 Ob):=(ja ya.out 3).trans rfl;have Ji:w8.cell? ⟨Ga,4,none⟩=some (.int .i64 oc):=(ja ya.out 4).trans rfl;have FE:w8.cell? ⟨Ga,5,none⟩=some (.int .i64 Yc):=(ja ya.out 5).trans rfl;have EE:w8.cell? ⟨Ga,6,none⟩=some (.string Dd):=(ja ya.out 6).trans rfl;have Ii:=aa ya.out 0;have Hi:=aa ya.out 1;have Gi:=aa ya.out 2;have Fi:=aa ya.out 3;have Ei:=aa ya.out 4;have DD:=aa ya.out 5;have CD:=aa ya.out 6;have Bt:w8.cell? ⟨za,0,none⟩=some (.slice xb Oa.length qb):=(ja ta.out 0).trans rfl;have yt:w8.cell? ⟨za,1,none⟩=some (.int .i64 La):=(ja ta.out 1).trans rfl;have vt:w8.cell? ⟨za,2,none⟩=some (.int .i64 Pa):=(ja ta.out 2).trans rfl;have qt:w8.cell? ⟨za,3,none⟩=some (.int .i64 Ja):=(ja ta.out 3).trans rfl;have ot:w8.cell? ⟨za,4,none⟩=some (.slice Pb Fa.length Gb):=(ja ta.out 4).trans rfl;have Ss:=aa ta.out 0;have Rs:=aa ta.out 1;have Qs:=aa ta.out 2;have Ns:=aa ta.out 3;have Ms:=aa ta.out 4)|((with_reducible refine zb (f:=81) rfl ?_);refine Dc (some 14) rfl rfl Try.func81 (by kernel_rfl) rfl #[.int .i64 Ub,.int .i64 0,.int .i64 (wrap64 (Ja - 1))] rfl (by (try simp only [List.map_toArray,List.map_cons,List.map_nil]);first|done|rfl|(simp only [List.length_drop,List.length_take];rfl)) ?_;(with_reducible refine (Za.calls Ub 0 (wrap64 (Ja - 1)) t103 _ A3.out).mono ?_);rintro e w' ⟨rfl,⟨nd,rfl⟩⟩;refine ⟨_,rfl,?_⟩)|((with_reducible refine zb (f:=81) rfl ?_);refine Dc (some 20) rfl rfl Try.func81 (by kernel_rfl) rfl #[.int .i64 Nb,.int .i64 0,.int .i64 (wrap64 (Ja - 1))] rfl (by (try simp only [List.map_toArray,List.map_cons,List.map_nil]);first|done|rfl|(simp only [List.length_drop,List.length_take];rfl)) ?_;(with_reducible refine (Za.calls Nb 0 (wrap64 (Ja - 1)) t104 _ A4.out).mono ?_);rintro e w' ⟨rfl,⟨nd,rfl⟩⟩;refine ⟨_,rfl,?_⟩)|((with_reducible refine zb (f:=81) rfl ?_);refine Dc (some 26) rfl rfl Try.func81 (by kernel_rfl) rfl #[.int .i64 Ob,.int .i64 0,.int .i64 (wrap64 (Ja - 1))] rfl (by (try simp only [List.map_toArray,List.map_cons,List.map_nil]);first|done|rfl|(simp only [List.length_drop,List.length_take];rfl)) ?_;(with_reducible refine (Za.calls Ob 0 (wrap64 (Ja - 1)) t105 _ A5.out).mono ?_);rintro e w' ⟨rfl,⟨nd,rfl⟩⟩;refine ⟨_,rfl,?_⟩))
 (try simp only [Act.put,List.setIfInBounds_toArray,List.set_cons_zero,List.set_cons_succ])
 go_cut [8] (fun v8 wc=>∃ (kq:Nat) (zF:Bool),v8 = .bool zF∧ga (mb.j0 kq t103 t104 t105 zF Oa La Pa Ja Fa Ic Ub Nb Ob oc Yc Dd=some r)∧ga (kq ≤ k)∧ga (wc.heap[za]? = some (.cells #[(.slice xb Oa.length qb),.int .i64 La,.int .i64 Pa,.int .i64 Ja,(.slice Pb Fa.length Gb)] 45 (0,0)))∧ga (wc.heap[Ga]? = some (.cells #[.int .i64 Ic,.int .i64 Ub,.int .i64 Nb,.int .i64 Ob,.int .i64 oc,.int .i64 Yc,.string Dd] 122 (0,0)))∧ga (Below w.heap.size w wc))
 case first =>
  have H:=HC6.out;clear HC6
  by_cases Zq:t104=true
  ·subst Zq;have H1:(if t105=true then ((Za.f Yc 0 (wrap64 ((Oa.length:Int) - 1))).bind fun t106=>(mb.j0 k t103 true t105 t106 Oa La Pa Ja Fa Ic Ub Nb Ob oc Yc Dd)) else (mb.j0 k t103 true t105 false Oa La Pa Ja Fa Ic Ub Nb Ob oc Yc Dd))=some r:=by rw [if_pos rfl] at H;exact H
   clear H;have H:=H1;clear H1
   by_cases XA:t105=true
   ·subst XA;have H1:((Za.f Yc 0 (wrap64 ((Oa.length:Int) - 1))).bind fun t106=>(mb.j0 k t103 true true t106 Oa La Pa Ja Fa Ic Ub Nb Ob oc Yc Dd))=some r:=by rw [if_pos rfl] at H;exact H
    clear H;have H:=H1;clear H1;replace H:=Option.bind_eq_some_iff.mp H;obtain ⟨t106,Fad,H⟩:=H;replace H:(mb.j0 k t103 true true t106 Oa La Pa Ja Fa Ic Ub Nb Ob oc Yc Dd)=some r:=H;have A14:=ga.mk Fad;clear Fad;have H':=ga.mk H;clear H;have Zar:=Bb.out;have oar:=Cb.out;have xE:w8.cell? ⟨Ga,0,none⟩=some (.int .i64 Ic):=(ja ya.out 0).trans rfl;have wE:w8.cell? ⟨Ga,1,none⟩=some (.int .i64 Ub):=(ja ya.out 1).trans rfl;have vE:w8.cell? ⟨Ga,2,none⟩=some (.int .i64 Nb):=(ja ya.out 2).trans rfl;have uE:w8.cell? ⟨Ga,3,none⟩=some (.int .i64 Ob):=(ja ya.out 3).trans rfl;have sE:w8.cell? ⟨Ga,4,none⟩=some (.int .i64 oc):=(ja ya.out 4).trans rfl;have NL:w8.cell? ⟨Ga,5,none⟩=some (.int .i64 Yc):=(ja ya.out 5).trans rfl;have ML:w8.cell? ⟨Ga,6,none⟩=some (.string Dd):=(ja ya.out 6).trans rfl;have vD:=aa ya.out 0;have uD:=aa ya.out 1;have tD:=aa ya.out 2;have sD:=aa ya.out 3;have rD:=aa ya.out 4;have XK:=aa ya.out 5;have WK:=aa ya.out 6;have rE:w8.cell? ⟨za,0,none⟩=some (.slice xb Oa.length qb):=(ja ta.out 0).trans rfl;have qE:w8.cell? ⟨za,1,none⟩=some (.int .i64 La):=(ja ta.out 1).trans rfl;have pE:w8.cell? ⟨za,2,none⟩=some (.int .i64 Pa):=(ja ta.out 2).trans rfl;have nE:w8.cell? ⟨za,3,none⟩=some (.int .i64 Ja):=(ja ta.out 3).trans rfl;have mE:w8.cell? ⟨za,4,none⟩=some (.slice Pb Fa.length Gb):=(ja ta.out 4).trans rfl;have qD:=aa ta.out 0;have oD:=aa ta.out 1;have nD:=aa ta.out 2;have mD:=aa ta.out 3;have lD:=aa ta.out 4;go_wp2_with (first|(go_at_call 81;(with_reducible refine (Za.calls Yc 0 (wrap64 ((Oa.length:Int) - 1)) t106 _ A14.out).mono ?_);rintro e w' ⟨rfl,⟨nd,rfl⟩⟩))
    go_meet
    case rel=>exact ⟨_,(t106),(by first|rfl|(simp;done)|(simp [*];done)),H',⟨by first|omega|exact Nat.le_refl _⟩,⟨by (with_reducible repeat (first|refine Ca ?_ _|refine Ea ?_|refine Da ?_ _));exact ta.out⟩,⟨by (with_reducible repeat (first|refine Ca ?_ _|refine Ea ?_|refine Da ?_ _));exact ya.out⟩,⟨by repeat (first|(with_reducible first|exact HB.out|apply oa|apply ia|apply qa|refine ua ?_ Sa.out|refine ua ?_ qc.out)|exact HB.out)⟩⟩
   ·replace XA:=Bool.eq_false_iff.mpr XA;subst XA;have H1:(mb.j0 k t103 true false false Oa La Pa Ja Fa Ic Ub Nb Ob oc Yc Dd)=some r:=by rw [if_neg (show ¬ (false=true) by decide)] at H;exact H
    clear H;have H:=H1;clear H1;have H':=ga.mk H;clear H;go_wp2
    go_meet
    case rel=>exact ⟨_,(false),(by first|rfl|(simp;done)|(simp [*];done)),H',⟨by first|omega|exact Nat.le_refl _⟩,⟨by (with_reducible repeat (first|refine Ca ?_ _|refine Ea ?_|refine Da ?_ _));exact ta.out⟩,⟨by (with_reducible repeat (first|refine Ca ?_ _|refine Ea ?_|refine Da ?_ _));exact ya.out⟩,⟨by repeat (first|(with_reducible first|exact HB.out|apply oa|apply ia|apply qa|refine ua ?_ Sa.out|refine ua ?_ qc.out)|exact HB.out)⟩⟩
  ·replace Zq:=Bool.eq_false_iff.mpr Zq;subst Zq;have H1:(if Nb=(-1) then (if t105=true then ((Za.f Yc 0 (wrap64 ((Oa.length:Int) - 1))).bind fun t107=>(mb.j0 k t103 false t105 t107 Oa La Pa Ja Fa Ic Ub Nb Ob oc Yc Dd)) else (mb.j0 k t103 false t105 false Oa La Pa Ja Fa Ic Ub Nb Ob oc Yc Dd)) else (mb.j0 k t103 false t105 false Oa La Pa Ja Fa Ic Ub Nb Ob oc Yc Dd))=some r:=by rw [if_neg (show ¬ (false=true) by decide)] at H;exact H
   clear H;have H:=H1;clear H1
   by_cases Kr:Nb=(-1)
   ·rw [if_pos Kr] at H;have Gn:(Nb == (-1))=true:=beq_iff_eq.mpr Kr;have Rw:(Nb != (-1))=false:=bne_eq_false_iff_eq.mpr Kr;clear Kr;(first|rw [Gn]|(simp only [dc,ec];rw [Gn])|skip)
    by_cases Mt:t105=true
    ·subst Mt;have H1:((Za.f Yc 0 (wrap64 ((Oa.length:Int) - 1))).bind fun t107=>(mb.j0 k t103 false true t107 Oa La Pa Ja Fa Ic Ub Nb Ob oc Yc Dd))=some r:=by rw [if_pos rfl] at H;exact H
     clear H;have H:=H1;clear H1;replace H:=Option.bind_eq_some_iff.mp H;obtain ⟨t107,Bad,H⟩:=H;replace H:(mb.j0 k t103 false true t107 Oa La Pa Ja Fa Ic Ub Nb Ob oc Yc Dd)=some r:=H;have sF:=ga.mk Bad;clear Bad;have H':=ga.mk H;clear H;have Uar:=Bb.out;have kar:=Cb.out;have Jw:w8.cell? ⟨Ga,0,none⟩=some (.int .i64 Ic):=(ja ya.out 0).trans rfl;have Iw:w8.cell? ⟨Ga,1,none⟩=some (.int .i64 Ub):=(ja ya.out 1).trans rfl;have Hw:w8.cell? ⟨Ga,2,none⟩=some (.int .i64 Nb):=(ja ya.out 2).trans rfl;have Gw:w8.cell? ⟨Ga,3,none⟩=some (.int .i64 Ob):=(ja ya.out 3).trans rfl;have Fw:w8.cell? ⟨Ga,4,none⟩=some (.int .i64 oc):=(ja ya.out 4).trans rfl;have LL:w8.cell? ⟨Ga,5,none⟩=some (.int .i64 Yc):=(ja ya.out 5).trans rfl;have KL:w8.cell? ⟨Ga,6,none⟩=some (.string Dd):=(ja ya.out 6).trans rfl;have sw:=aa ya.out 0;have qw:=aa ya.out 1;have ow:=aa ya.out 2;have nw:=aa ya.out 3;have mw:=aa ya.out 4;have VK:=aa ya.out 5;have UK:=aa ya.out 6;have Oo:w8.cell? ⟨za,0,none⟩=some (.slice xb Oa.length qb):=(ja ta.out 0).trans rfl;have Mo:w8.cell? ⟨za,1,none⟩=some (.int .i64 La):=(ja ta.out 1).trans rfl;have Lo:w8.cell? ⟨za,2,none⟩=some (.int .i64 Pa):=(ja ta.out 2).trans rfl;have Ko:w8.cell? ⟨za,3,none⟩=some (.int .i64 Ja):=(ja ta.out 3).trans rfl;have Jo:w8.cell? ⟨za,4,none⟩=some (.slice Pb Fa.length Gb):=(ja ta.out 4).trans rfl;have Bo:=aa ta.out 0;have zo:=aa ta.out 1;have yo:=aa ta.out 2;have xo:=aa ta.out 3;have vo:=aa ta.out 4;go_wp2_with (first|(go_at_call 81;(with_reducible refine (Za.calls Yc 0 (wrap64 ((Oa.length:Int) - 1)) t107 _ sF.out).mono ?_);rintro e w' ⟨rfl,⟨nd,rfl⟩⟩))
     go_meet
     case rel=>exact ⟨_,(t107),(by first|rfl|(simp;done)|(simp [*];done)),H',⟨by first|omega|exact Nat.le_refl _⟩,⟨by (with_reducible repeat (first|refine Ca ?_ _|refine Ea ?_|refine Da ?_ _));exact ta.out⟩,⟨by (with_reducible repeat (first|refine Ca ?_ _|refine Ea ?_|refine Da ?_ _));exact ya.out⟩,⟨by repeat (first|(with_reducible first|exact HB.out|apply oa|apply ia|apply qa|refine ua ?_ Sa.out|refine ua ?_ qc.out)|exact HB.out)⟩⟩
    ·replace Mt:=Bool.eq_false_iff.mpr Mt;subst Mt;have H1:(mb.j0 k t103 false false false Oa La Pa Ja Fa Ic Ub Nb Ob oc Yc Dd)=some r:=by rw [if_neg (show ¬ (false=true) by decide)] at H;exact H
     clear H;have H:=H1;clear H1;have H':=ga.mk H;clear H;have S6:=Bb.out;have I6:=Cb.out;have Xs:w8.cell? ⟨Ga,0,none⟩=some (.int .i64 Ic):=(ja ya.out 0).trans rfl;have Ws:w8.cell? ⟨Ga,1,none⟩=some (.int .i64 Ub):=(ja ya.out 1).trans rfl;have Vs:w8.cell? ⟨Ga,2,none⟩=some (.int .i64 Nb):=(ja ya.out 2).trans rfl;have Us:w8.cell? ⟨Ga,3,none⟩=some (.int .i64 Ob):=(ja ya.out 3).trans rfl;have Ts:w8.cell? ⟨Ga,4,none⟩=some (.int .i64 oc):=(ja ya.out 4).trans rfl;have JL:w8.cell? ⟨Ga,5,none⟩=some (.int .i64 Yc):=(ja ya.out 5).trans rfl;have IL:w8.cell? ⟨Ga,6,none⟩=some (.string Dd):=(ja ya.out 6).trans rfl;have Fs:=aa ya.out 0;have Es:=aa ya.out 1;have Ds:=aa ya.out 2;have Cs:=aa ya.out 3;have Bs:=aa ya.out 4;have TK:=aa ya.out 5;have SK:=aa ya.out 6;go_wp2
     go_meet
     case rel=>exact ⟨_,(false),(by first|rfl|(simp;done)|(simp [*];done)),H',⟨by first|omega|exact Nat.le_refl _⟩,⟨by (with_reducible repeat (first|refine Ca ?_ _|refine Ea ?_|refine Da ?_ _));exact ta.out⟩,⟨by (with_reducible repeat (first|refine Ca ?_ _|refine Ea ?_|refine Da ?_ _));exact ya.out⟩,⟨by repeat (first|(with_reducible first|exact HB.out|apply oa|apply ia|apply qa|refine ua ?_ Sa.out|refine ua ?_ qc.out)|exact HB.out)⟩⟩
   ·rw [if_neg Kr] at H;have Gn:(Nb == (-1))=false:=beq_eq_false_iff_ne.mpr Kr;have Rw:(Nb != (-1))=true:=bne_iff_ne.mpr Kr;(first|rw [Gn]|(simp only [dc,ec];rw [Gn])|skip);have H':=ga.mk H;clear H;have Tar:=Bb.out;have jar:=Cb.out;have Bz:w8.cell? ⟨Ga,0,none⟩=some (.int .i64 Ic):=(ja ya.out 0).trans rfl;have Az:w8.cell? ⟨Ga,1,none⟩=some (.int .i64 Ub):=(ja ya.out 1).trans rfl;have zz:w8.cell? ⟨Ga,2,none⟩=some (.int .i64 Nb):=(ja ya.out 2).trans rfl;have yz:w8.cell? ⟨Ga,3,none⟩=some (.int .i64 Ob):=(ja ya.out 3).trans rfl;have xz:w8.cell? ⟨Ga,4,none⟩=some (.int .i64 oc):=(ja ya.out 4).trans rfl;have GL:w8.cell? ⟨Ga,5,none⟩=some (.int .i64 Yc):=(ja ya.out 5).trans rfl;have FL:w8.cell? ⟨Ga,6,none⟩=some (.string Dd):=(ja ya.out 6).trans rfl;have bz:=aa ya.out 0;have az:=aa ya.out 1;have Zy:=aa ya.out 2;have Yy:=aa ya.out 3;have Xy:=aa ya.out 4;have RK:=aa ya.out 5;have QK:=aa ya.out 6;go_wp2
    go_meet
    case rel=>exact ⟨_,(false),(by first|rfl|(simp;done)|(simp [*];done)),H',⟨by first|omega|exact Nat.le_refl _⟩,⟨by (with_reducible repeat (first|refine Ca ?_ _|refine Ea ?_|refine Da ?_ _));exact ta.out⟩,⟨by (with_reducible repeat (first|refine Ca ?_ _|refine Ea ?_|refine Da ?_ _));exact ya.out⟩,⟨by repeat (first|(with_reducible first|exact HB.out|apply oa|apply ia|apply qa|refine ua ?_ Sa.out|refine ua ?_ qc.out)|exact HB.out)⟩⟩
 case rest =>
  clear HC6
  try clear c1
  try clear c2
  try clear p2
  try clear p6
  try clear c8
  try clear c9
  try clear Zq
  try clear XA
  try clear vN
  try clear Kr
  try clear Gn
  try clear Rw
  try clear Mt
  try clear Yx
  try clear ZE
  try clear Z4
  try clear Ni
  try clear Mi
  try clear Li
  try clear Ki
  try clear Ji
  try clear FE
  try clear EE
  try clear Bt
  try clear yt
  try clear vt
  try clear qt
  try clear ot
  try clear xE
  try clear wE
  try clear vE
  try clear uE
  try clear sE
  try clear NL
  try clear ML
  try clear rE
  try clear qE
  try clear pE
  try clear nE
  try clear mE
  try clear Jw
  try clear Iw
  try clear Hw
  try clear Gw
  try clear Fw
  try clear LL
  try clear KL
  try clear Oo
  try clear Mo
  try clear Lo
  try clear Ko
  try clear Jo
  try clear Xs
  try clear Ws
  try clear Vs
  try clear Us
  try clear Ts
  try clear JL
  try clear IL
  try clear Bz
  try clear Az
  try clear zz
  try clear yz
  try clear xz
  try clear GL
  try clear FL
  try clear Ii
  try clear Hi
  try clear Gi
  try clear Fi
  try clear Ei
  try clear DD
  try clear CD
  try clear Ss
  try clear Rs
  try clear Qs
  try clear Ns
  try clear Ms
  try clear vD
  try clear uD
  try clear tD
  try clear sD
  try clear rD
  try clear XK
  try clear WK
  try clear qD
  try clear oD
  try clear nD
  try clear mD
  try clear lD
  try clear sw
  try clear qw
  try clear ow
  try clear nw
  try clear mw
  try clear VK
  try clear UK
  try clear Bo
  try clear zo
  try clear yo
  try clear xo
  try clear vo
  try clear Fs
  try clear Es
  try clear Ds
  try clear Cs
  try clear Bs
  try clear TK
  try clear SK
  try clear bz
  try clear az
  try clear Zy
  try clear Yy
  try clear Xy
  try clear RK
  try clear QK
  obtain ⟨kq,zF,rfl,HA,HJ5,ta,ya,HB⟩:=hcut;cases kq with
  | zero=>exact absurd HA.out (by simp [mb.j0])
  | succ kj5 =>
   have H:=HA.out;clear HA;simp only [mb.j0] at H;have J4:=ga.mk H;clear H
   go_upto_region 5 with (fail)
   go_cut [62] (fun v62 wc=>∃ (kq:Nat) (eC:Bool),v62 = .bool eC∧ga (mb.j1 kq t103 t104 t105 zF eC Oa La Pa Ja Fa Ic Ub Nb Ob oc Yc Dd=some r)∧ga (kq ≤ kj5)∧ga (wc.heap[za]? = some (.cells #[(.slice xb Oa.length qb),.int .i64 La,.int .i64 Pa,.int .i64 Ja,(.slice Pb Fa.length Gb)] 45 (0,0)))∧ga (wc.heap[Ga]? = some (.cells #[.int .i64 Ic,.int .i64 Ub,.int .i64 Nb,.int .i64 Ob,.int .i64 oc,.int .i64 Yc,.string Dd] 122 (0,0)))∧ga (Below w.heap.size w wc))
   case first =>
    have H:=J4.out;clear J4
    by_cases Dz:Ic=2
    ·rw [if_pos Dz] at H;have Pw:(Ic == 2)=true:=beq_iff_eq.mpr Dz;have aX:(Ic != 2)=false:=bne_eq_false_iff_eq.mpr Dz;clear Dz;(first|rw [Pw]|(simp only [dc,ec];rw [Pw])|skip)
     by_cases Xx:Ic=4
     ·rw [if_pos Xx] at H;have RB:(Ic == 4)=true:=beq_iff_eq.mpr Xx;have ZW:(Ic != 4)=false:=bne_eq_false_iff_eq.mpr Xx;clear Xx;have H':=ga.mk H;clear H;have Par:=Bb.out;have ear:=Cb.out;have lE:wc.cell? ⟨Ga,0,none⟩=some (.int .i64 Ic):=(ja ya.out 0).trans rfl;have kE:wc.cell? ⟨Ga,1,none⟩=some (.int .i64 Ub):=(ja ya.out 1).trans rfl;have jE:wc.cell? ⟨Ga,2,none⟩=some (.int .i64 Nb):=(ja ya.out 2).trans rfl;have iE:wc.cell? ⟨Ga,3,none⟩=some (.int .i64 Ob):=(ja ya.out 3).trans rfl;have gE:wc.cell? ⟨Ga,4,none⟩=some (.int .i64 oc):=(ja ya.out 4).trans rfl;have KU:wc.cell? ⟨Ga,5,none⟩=some (.int .i64 Yc):=(ja ya.out 5).trans rfl;have JU:wc.cell? ⟨Ga,6,none⟩=some (.string Dd):=(ja ya.out 6).trans rfl;have kD:=aa ya.out 0;have jD:=aa ya.out 1;have iD:=aa ya.out 2;have gD:=aa ya.out 3;have fD:=aa ya.out 4;have nT:=aa ya.out 5;have mT:=aa ya.out 6;go_wp2
      go_meet
      case rel=>exact ⟨_,(false),(by first|rfl|(simp;done)|(simp [*];done)),H',⟨by have:=HJ5.out;first|omega|exact Nat.le_refl _⟩,⟨by (with_reducible repeat (first|refine Ca ?_ _|refine Ea ?_|refine Da ?_ _));exact ta.out⟩,⟨by (with_reducible repeat (first|refine Ca ?_ _|refine Ea ?_|refine Da ?_ _));exact ya.out⟩,⟨by repeat (first|(with_reducible first|exact HB.out|apply oa|apply ia|apply qa|refine ua ?_ Sa.out|refine ua ?_ qc.out)|exact HB.out)⟩⟩
     ·rw [if_neg Xx] at H;have RB:(Ic == 4)=false:=beq_eq_false_iff_ne.mpr Xx;have ZW:(Ic != 4)=true:=bne_iff_ne.mpr Xx;have H':=ga.mk H;clear H;have Nar:=Bb.out;have car:=Cb.out;have zL:wc.cell? ⟨Ga,0,none⟩=some (.int .i64 Ic):=(ja ya.out 0).trans rfl;have yL:wc.cell? ⟨Ga,1,none⟩=some (.int .i64 Ub):=(ja ya.out 1).trans rfl;have xL:wc.cell? ⟨Ga,2,none⟩=some (.int .i64 Nb):=(ja ya.out 2).trans rfl;have wL:wc.cell? ⟨Ga,3,none⟩=some (.int .i64 Ob):=(ja ya.out 3).trans rfl;have vL:wc.cell? ⟨Ga,4,none⟩=some (.int .i64 oc):=(ja ya.out 4).trans rfl;have uL:wc.cell? ⟨Ga,5,none⟩=some (.int .i64 Yc):=(ja ya.out 5).trans rfl;have tL:wc.cell? ⟨Ga,6,none⟩=some (.string Dd):=(ja ya.out 6).trans rfl;have KK:=aa ya.out 0;have JK:=aa ya.out 1;have IK:=aa ya.out 2;have GK:=aa ya.out 3;have EK:=aa ya.out 4;have DK:=aa ya.out 5;have CK:=aa ya.out 6;go_wp2
      go_meet
      case rel=>exact ⟨_,((oc != 0)),(by first|rfl|(simp;done)|(simp [*];done)),H',⟨by have:=HJ5.out;first|omega|exact Nat.le_refl _⟩,⟨by (with_reducible repeat (first|refine Ca ?_ _|refine Ea ?_|refine Da ?_ _));exact ta.out⟩,⟨by (with_reducible repeat (first|refine Ca ?_ _|refine Ea ?_|refine Da ?_ _));exact ya.out⟩,⟨by repeat (first|(with_reducible first|exact HB.out|apply oa|apply ia|apply qa|refine ua ?_ Sa.out|refine ua ?_ qc.out)|exact HB.out)⟩⟩
    ·rw [if_neg Dz] at H;have Pw:(Ic == 2)=false:=beq_eq_false_iff_ne.mpr Dz;have aX:(Ic != 2)=true:=bne_iff_ne.mpr Dz;(first|rw [Pw]|(simp only [dc,ec];rw [Pw])|skip)
     by_cases WW:Dd.toList=([]:List UInt8)
     ·rw [if_pos WW] at H;have VW:(Dd.toList == ([]:List UInt8))=true:=beq_iff_eq.mpr WW;have UW:(Dd.toList != ([]:List UInt8))=false:=bne_eq_false_iff_eq.mpr WW;clear WW
      by_cases TW:Ic=4
      ·rw [if_pos TW] at H;have SW:(Ic == 4)=true:=beq_iff_eq.mpr TW;have RW:(Ic != 4)=false:=bne_eq_false_iff_eq.mpr TW;clear TW;have H':=ga.mk H;clear H;have O6:=Bb.out;have E6:=Cb.out;have YD:wc.cell? ⟨Ga,0,none⟩=some (.int .i64 Ic):=(ja ya.out 0).trans rfl;have XD:wc.cell? ⟨Ga,1,none⟩=some (.int .i64 Ub):=(ja ya.out 1).trans rfl;have WD:wc.cell? ⟨Ga,2,none⟩=some (.int .i64 Nb):=(ja ya.out 2).trans rfl;have VD:wc.cell? ⟨Ga,3,none⟩=some (.int .i64 Ob):=(ja ya.out 3).trans rfl;have UD:wc.cell? ⟨Ga,4,none⟩=some (.int .i64 oc):=(ja ya.out 4).trans rfl;have sL:wc.cell? ⟨Ga,5,none⟩=some (.int .i64 Yc):=(ja ya.out 5).trans rfl;have rL:wc.cell? ⟨Ga,6,none⟩=some (.string Dd):=(ja ya.out 6).trans rfl;have ZC:=aa ya.out 0;have YC:=aa ya.out 1;have XC:=aa ya.out 2;have WC:=aa ya.out 3;have VC:=aa ya.out 4;have BK:=aa ya.out 5;have AK:=aa ya.out 6;go_wp2
       go_meet
       case rel=>exact ⟨_,(false),(by first|rfl|(simp;done)|(simp [*];done)),H',⟨by have:=HJ5.out;first|omega|exact Nat.le_refl _⟩,⟨by (with_reducible repeat (first|refine Ca ?_ _|refine Ea ?_|refine Da ?_ _));exact ta.out⟩,⟨by (with_reducible repeat (first|refine Ca ?_ _|refine Ea ?_|refine Da ?_ _));exact ya.out⟩,⟨by repeat (first|(with_reducible first|exact HB.out|apply oa|apply ia|apply qa|refine ua ?_ Sa.out|refine ua ?_ qc.out)|exact HB.out)⟩⟩
      ·rw [if_neg TW] at H;have SW:(Ic == 4)=false:=beq_eq_false_iff_ne.mpr TW;have RW:(Ic != 4)=true:=bne_iff_ne.mpr TW;have H':=ga.mk H;clear H;have N6:=Bb.out;have D6:=Cb.out;have gz:wc.cell? ⟨Ga,0,none⟩=some (.int .i64 Ic):=(ja ya.out 0).trans rfl;have fz:wc.cell? ⟨Ga,1,none⟩=some (.int .i64 Ub):=(ja ya.out 1).trans rfl;have ez:wc.cell? ⟨Ga,2,none⟩=some (.int .i64 Nb):=(ja ya.out 2).trans rfl;have dz:wc.cell? ⟨Ga,3,none⟩=some (.int .i64 Ob):=(ja ya.out 3).trans rfl;have cz:wc.cell? ⟨Ga,4,none⟩=some (.int .i64 oc):=(ja ya.out 4).trans rfl;have xU:wc.cell? ⟨Ga,5,none⟩=some (.int .i64 Yc):=(ja ya.out 5).trans rfl;have wU:wc.cell? ⟨Ga,6,none⟩=some (.string Dd):=(ja ya.out 6).trans rfl;have My:=aa ya.out 0;have Ky:=aa ya.out 1;have Jy:=aa ya.out 2;have Iy:=aa ya.out 3;have Hy:=aa ya.out 4;have ZS:=aa ya.out 5;have YS:=aa ya.out 6;go_wp2
       go_meet
       case rel=>exact ⟨_,((oc != 0)),(by first|rfl|(simp;done)|(simp [*];done)),H',⟨by have:=HJ5.out;first|omega|exact Nat.le_refl _⟩,⟨by (with_reducible repeat (first|refine Ca ?_ _|refine Ea ?_|refine Da ?_ _));exact ta.out⟩,⟨by (with_reducible repeat (first|refine Ca ?_ _|refine Ea ?_|refine Da ?_ _));exact ya.out⟩,⟨by repeat (first|(with_reducible first|exact HB.out|apply oa|apply ia|apply qa|refine ua ?_ Sa.out|refine ua ?_ qc.out)|exact HB.out)⟩⟩
     ·rw [if_neg WW] at H;have VW:(Dd.toList == ([]:List UInt8))=false:=beq_eq_false_iff_ne.mpr WW;have UW:(Dd.toList != ([]:List UInt8))=true:=bne_iff_ne.mpr WW;have H':=ga.mk H;clear H;have M6:=Bb.out;have C6:=Cb.out;have kL:wc.cell? ⟨Ga,0,none⟩=some (.int .i64 Ic):=(ja ya.out 0).trans rfl;have jL:wc.cell? ⟨Ga,1,none⟩=some (.int .i64 Ub):=(ja ya.out 1).trans rfl;have iL:wc.cell? ⟨Ga,2,none⟩=some (.int .i64 Nb):=(ja ya.out 2).trans rfl;have gL:wc.cell? ⟨Ga,3,none⟩=some (.int .i64 Ob):=(ja ya.out 3).trans rfl;have fL:wc.cell? ⟨Ga,4,none⟩=some (.int .i64 oc):=(ja ya.out 4).trans rfl;have qU:wc.cell? ⟨Ga,5,none⟩=some (.int .i64 Yc):=(ja ya.out 5).trans rfl;have pU:wc.cell? ⟨Ga,6,none⟩=some (.string Dd):=(ja ya.out 6).trans rfl;have uK:=aa ya.out 0;have tK:=aa ya.out 1;have sK:=aa ya.out 2;have rK:=aa ya.out 3;have qK:=aa ya.out 4;have SS:=aa ya.out 5;have RS:=aa ya.out 6;go_wp2
      go_meet
      case rel=>exact ⟨_,(true),(by first|rfl|(simp;done)|(simp [*];done)),H',⟨by have:=HJ5.out;first|omega|exact Nat.le_refl _⟩,⟨by (with_reducible repeat (first|refine Ca ?_ _|refine Ea ?_|refine Da ?_ _));exact ta.out⟩,⟨by (with_reducible repeat (first|refine Ca ?_ _|refine Ea ?_|refine Da ?_ _));exact ya.out⟩,⟨by repeat (first|(with_reducible first|exact HB.out|apply oa|apply ia|apply qa|refine ua ?_ Sa.out|refine ua ?_ qc.out)|exact HB.out)⟩⟩
   case rest =>
    clear J4
    try clear c1
    try clear c2
    try clear p2
    try clear c3
    try clear c4
    try clear p6
    try clear c8
    try clear c9
    try clear Zq
    try clear XA
    try clear vN
    try clear Kr
    try clear Gn
    try clear Rw
    try clear Mt
    try clear Yx
    try clear ZE
    try clear Z4
    try clear Dz
    try clear Pw
    try clear aX
    try clear Xx
    try clear RB
    try clear ZW
    try clear TL
    try clear dH
    try clear WW
    try clear VW
    try clear UW
    try clear TW
    try clear SW
    try clear RW
    try clear G1
    try clear c39
    try clear c41
    try clear Ni
    try clear Mi
    try clear Li
    try clear Ki
    try clear Ji
    try clear FE
    try clear EE
    try clear Bt
    try clear yt
    try clear vt
    try clear qt
    try clear ot
    try clear xE
    try clear wE
    try clear vE
    try clear uE
    try clear sE
    try clear NL
    try clear ML
    try clear rE
    try clear qE
    try clear pE
    try clear nE
    try clear mE
    try clear Jw
    try clear Iw
    try clear Hw
    try clear Gw
    try clear Fw
    try clear LL
    try clear KL
    try clear Oo
    try clear Mo
    try clear Lo
    try clear Ko
    try clear Jo
    try clear Xs
    try clear Ws
    try clear Vs
    try clear Us
    try clear Ts
    try clear JL
    try clear IL
    try clear Bz
    try clear Az
    try clear zz
    try clear yz
    try clear xz
    try clear GL
    try clear FL
    try clear lE
    try clear kE
    try clear jE
    try clear iE
    try clear gE
    try clear KU
    try clear JU
    try clear zL
    try clear yL
    try clear xL
    try clear wL
    try clear vL
    try clear uL
    try clear tL
    try clear YD
    try clear XD
    try clear WD
    try clear VD
    try clear UD
    try clear sL
    try clear rL
    try clear gz
    try clear fz
    try clear ez
    try clear dz
    try clear cz
    try clear xU
    try clear wU
    try clear kL
    try clear jL
    try clear iL
    try clear gL
    try clear fL
    try clear qU
    try clear pU
    try clear Ii
    try clear Hi
    try clear Gi
    try clear Fi
    try clear Ei
    try clear DD
    try clear CD
    try clear Ss
    try clear Rs
    try clear Qs
    try clear Ns
    try clear Ms
    try clear vD
    try clear uD
    try clear tD
    try clear sD
    try clear rD
    try clear XK
    try clear WK
    try clear qD
    try clear oD
    try clear nD
    try clear mD
    try clear lD
    try clear sw
    try clear qw
    try clear ow
    try clear nw
    try clear mw
    try clear VK
    try clear UK
    try clear Bo
    try clear zo
    try clear yo
    try clear xo
    try clear vo
    try clear Fs
    try clear Es
    try clear Ds
    try clear Cs
    try clear Bs
    try clear TK
    try clear SK
    try clear bz
    try clear az
    try clear Zy
    try clear Yy
    try clear Xy
    try clear RK
    try clear QK
    try clear kD
    try clear jD
    try clear iD
    try clear gD
    try clear fD
    try clear nT
    try clear mT
    try clear KK
    try clear JK
    try clear IK
    try clear GK
    try clear EK
    try clear DK
    try clear CK
    try clear ZC
    try clear YC
    try clear XC
    try clear WC
    try clear VC
    try clear BK
    try clear AK
    try clear My
    try clear Ky
    try clear Jy
    try clear Iy
    try clear Hy
    try clear ZS
    try clear YS
    try clear uK
    try clear tK
    try clear sK
    try clear rK
    try clear qK
    try clear SS
    try clear RS
    try clear p2
    try clear p6
    obtain ⟨kq,eC,rfl,HA,paw,ta,ya,HB⟩:=hcut;cases kq with
    | zero=>exact absurd HA.out (by simp [mb.j1])
    | succ EM =>
     have H:=HA.out;clear HA;simp only [mb.j1] at H
     by_cases SL:eC=true
     ·subst SL;have H1:(some false)=some r:=by rw [if_pos rfl] at H;exact H
      clear H;have H:=H1;clear H1;obtain rfl:=Option.some.inj H;go_wp2;go_ret;exact ⟨by first|rfl|(simp [Na,Ma] <;> rfl)|(simp [*,Na,Ma] <;> rfl),by repeat (first|(with_reducible first|exact HB.out|apply oa|apply ia|apply qa|refine ua ?_ Sa.out|refine ua ?_ qc.out)|exact HB.out)⟩
     ·replace SL:=Bool.eq_false_iff.mpr SL;subst SL;have H1:(if Ic=0 then (if t103=true then (if Nb=0 then (some (Ob == 0)) else (some false)) else (some false)) else (if Ic=1 then (if t103=true then (if t104=true then (if Ob=0 then (some (Yc == 0)) else (some false)) else (some false)) else (some false)) else (if Ic=2 then (if t103=true then (if t104=true then (if t105=true then (if Yc=0 then ((Je.f EM (([(⟨#[61,61]⟩:ByteArray),(⟨#[60]⟩:ByteArray),(⟨#[38]⟩:ByteArray),(⟨#[43]⟩:ByteArray),(⟨#[45]⟩:ByteArray),(⟨#[42]⟩:ByteArray)]:List ByteArray)) Dd).bind fun t111=>(some t111)) else (some false)) else (some false)) else (some false)) else (some false)) else (if Ic=3 then (if t103=true then (some zF) else (some false)) else (if Ic=4 then (if Ub=0 then (if zF=true then ((Za.f oc 0 (wrap64 (Ja - 1))).bind fun t112=>(some t112)) else (some false)) else (some false)) else (if Ic=5 then (if t103=true then (if Nb=0 then (if Ob=0 then (some (Yc == 0)) else (some false)) else (some false)) else (some false)) else (if Ic=6 then (if Ub=0 then (if t104=true then (if Ob=0 then (some (Yc == 0)) else (some false)) else (some false)) else (some false)) else (some false))))))))=some r:=by rw [if_neg (show ¬ (false=true) by decide)] at H;exact H
      clear H;have H:=H1;clear H1
      by_cases CA:Ic=0
      ·rw [if_pos CA] at H;have bH:(Ic == 0)=true:=beq_iff_eq.mpr CA;have aH:(Ic != 0)=false:=bne_eq_false_iff_eq.mpr CA;clear CA
       by_cases YE:t103=true
       ·subst YE;have H1:(if Nb=0 then (some (Ob == 0)) else (some false))=some r:=by rw [if_pos rfl] at H;exact H
        clear H;have H:=H1;clear H1
        by_cases QB:Nb=0
        ·rw [if_pos QB] at H;have RL:(Nb == 0)=true:=beq_iff_eq.mpr QB;have dQ:(Nb != 0)=false:=bne_eq_false_iff_eq.mpr QB;clear QB;obtain rfl:=Option.some.inj H;have pW:=Bb.out;have nW:=Cb.out;have TD:wc.cell? ⟨Ga,0,none⟩=some (.int .i64 Ic):=(ja ya.out 0).trans rfl;have SD:wc.cell? ⟨Ga,1,none⟩=some (.int .i64 Ub):=(ja ya.out 1).trans rfl;have RD:wc.cell? ⟨Ga,2,none⟩=some (.int .i64 Nb):=(ja ya.out 2).trans rfl;have QD:wc.cell? ⟨Ga,3,none⟩=some (.int .i64 Ob):=(ja ya.out 3).trans rfl;have PD:wc.cell? ⟨Ga,4,none⟩=some (.int .i64 oc):=(ja ya.out 4).trans rfl;have dU:wc.cell? ⟨Ga,5,none⟩=some (.int .i64 Yc):=(ja ya.out 5).trans rfl;have cU:wc.cell? ⟨Ga,6,none⟩=some (.string Dd):=(ja ya.out 6).trans rfl;have UC:=aa ya.out 0;have TC:=aa ya.out 1;have SC:=aa ya.out 2;have RC:=aa ya.out 3;have QC:=aa ya.out 4;have DS:=aa ya.out 5;have CS:=aa ya.out 6;go_wp2;go_ret;exact ⟨by first|rfl|(simp [Na,Ma] <;> rfl)|(simp [*,Na,Ma] <;> rfl),by repeat (first|(with_reducible first|exact HB.out|apply oa|apply ia|apply qa|refine ua ?_ Sa.out|refine ua ?_ qc.out)|exact HB.out)⟩
        ·rw [if_neg QB] at H;have RL:(Nb == 0)=false:=beq_eq_false_iff_ne.mpr QB;have dQ:(Nb != 0)=true:=bne_iff_ne.mpr QB;obtain rfl:=Option.some.inj H;have Iar:=Bb.out;have Xaq:=Cb.out;have WT:wc.cell? ⟨Ga,0,none⟩=some (.int .i64 Ic):=(ja ya.out 0).trans rfl;have VT:wc.cell? ⟨Ga,1,none⟩=some (.int .i64 Ub):=(ja ya.out 1).trans rfl;have UT:wc.cell? ⟨Ga,2,none⟩=some (.int .i64 Nb):=(ja ya.out 2).trans rfl;have TT:wc.cell? ⟨Ga,3,none⟩=some (.int .i64 Ob):=(ja ya.out 3).trans rfl;have RT:wc.cell? ⟨Ga,4,none⟩=some (.int .i64 oc):=(ja ya.out 4).trans rfl;have Laj:wc.cell? ⟨Ga,5,none⟩=some (.int .i64 Yc):=(ja ya.out 5).trans rfl;have Kaj:wc.cell? ⟨Ga,6,none⟩=some (.string Dd):=(ja ya.out 6).trans rfl;have vS:=aa ya.out 0;have uS:=aa ya.out 1;have tS:=aa ya.out 2;have sS:=aa ya.out 3;have rS:=aa ya.out 4;have qag:=aa ya.out 5;have pag:=aa ya.out 6;go_wp2;go_ret;exact ⟨by first|rfl|(simp [Na,Ma] <;> rfl)|(simp [*,Na,Ma] <;> rfl),by repeat (first|(with_reducible first|exact HB.out|apply oa|apply ia|apply qa|refine ua ?_ Sa.out|refine ua ?_ qc.out)|exact HB.out)⟩
       ·replace YE:=Bool.eq_false_iff.mpr YE;subst YE;have H1:(some false)=some r:=by rw [if_neg (show ¬ (false=true) by decide)] at H;exact H
        clear H;have H:=H1;clear H1;obtain rfl:=Option.some.inj H;have L6:=Bb.out;have o6:=Cb.out;have dL:wc.cell? ⟨Ga,0,none⟩=some (.int .i64 Ic):=(ja ya.out 0).trans rfl;have cL:wc.cell? ⟨Ga,1,none⟩=some (.int .i64 Ub):=(ja ya.out 1).trans rfl;have bL:wc.cell? ⟨Ga,2,none⟩=some (.int .i64 Nb):=(ja ya.out 2).trans rfl;have ZK:wc.cell? ⟨Ga,3,none⟩=some (.int .i64 Ob):=(ja ya.out 3).trans rfl;have YK:wc.cell? ⟨Ga,4,none⟩=some (.int .i64 oc):=(ja ya.out 4).trans rfl;have Eaj:wc.cell? ⟨Ga,5,none⟩=some (.int .i64 Yc):=(ja ya.out 5).trans rfl;have Daj:wc.cell? ⟨Ga,6,none⟩=some (.string Dd):=(ja ya.out 6).trans rfl;have pK:=aa ya.out 0;have oK:=aa ya.out 1;have nK:=aa ya.out 2;have mK:=aa ya.out 3;have lK:=aa ya.out 4;have iag:=aa ya.out 5;have hag:=aa ya.out 6;go_wp2;go_ret;exact ⟨by first|rfl|(simp [Na,Ma] <;> rfl)|(simp [*,Na,Ma] <;> rfl),by repeat (first|(with_reducible first|exact HB.out|apply oa|apply ia|apply qa|refine ua ?_ Sa.out|refine ua ?_ qc.out)|exact HB.out)⟩
      ·rw [if_neg CA] at H;have bH:(Ic == 0)=false:=beq_eq_false_iff_ne.mpr CA;have aH:(Ic != 0)=true:=bne_iff_ne.mpr CA
       by_cases tN:Ic=1
       ·rw [if_pos tN] at H;have PW:(Ic == 1)=true:=beq_iff_eq.mpr tN;have cab:(Ic != 1)=false:=bne_eq_false_iff_eq.mpr tN;clear tN
        by_cases c54:t103=true
        ·subst c54;have H1:(if t104=true then (if Ob=0 then (some (Yc == 0)) else (some false)) else (some false))=some r:=by rw [if_pos rfl] at H;exact H
         clear H;have H:=H1;clear H1
         by_cases c55:t104=true
         ·subst c55;have H1:(if Ob=0 then (some (Yc == 0)) else (some false))=some r:=by rw [if_pos rfl] at H;exact H
          clear H;have H:=H1;clear H1
          by_cases E1:Ob=0
          ·rw [if_pos E1] at H;have bab:(Ob == 0)=true:=beq_iff_eq.mpr E1;have aab:(Ob != 0)=false:=bne_eq_false_iff_eq.mpr E1;clear E1;obtain rfl:=Option.some.inj H;have Ear:=Bb.out;have Taq:=Cb.out;have QT:wc.cell? ⟨Ga,0,none⟩=some (.int .i64 Ic):=(ja ya.out 0).trans rfl;have PT:wc.cell? ⟨Ga,1,none⟩=some (.int .i64 Ub):=(ja ya.out 1).trans rfl;have OT:wc.cell? ⟨Ga,2,none⟩=some (.int .i64 Nb):=(ja ya.out 2).trans rfl;have NT:wc.cell? ⟨Ga,3,none⟩=some (.int .i64 Ob):=(ja ya.out 3).trans rfl;have MT:wc.cell? ⟨Ga,4,none⟩=some (.int .i64 oc):=(ja ya.out 4).trans rfl;have iaj:wc.cell? ⟨Ga,5,none⟩=some (.int .i64 Yc):=(ja ya.out 5).trans rfl;have gaj:wc.cell? ⟨Ga,6,none⟩=some (.string Dd):=(ja ya.out 6).trans rfl;have pS:=aa ya.out 0;have nS:=aa ya.out 1;have mS:=aa ya.out 2;have lS:=aa ya.out 3;have kS:=aa ya.out 4;have Maf:=aa ya.out 5;have Laf:=aa ya.out 6;go_wp2;go_ret;exact ⟨by first|rfl|(simp [Na,Ma] <;> rfl)|(simp [*,Na,Ma] <;> rfl),by repeat (first|(with_reducible first|exact HB.out|apply oa|apply ia|apply qa|refine ua ?_ Sa.out|refine ua ?_ qc.out)|exact HB.out)⟩
          ·rw [if_neg E1] at H;have bab:(Ob == 0)=false:=beq_eq_false_iff_ne.mpr E1;have aab:(Ob != 0)=true:=bne_iff_ne.mpr E1;obtain rfl:=Option.some.inj H;have Dar:=Bb.out;have Saq:=Cb.out;have faj:wc.cell? ⟨Ga,0,none⟩=some (.int .i64 Ic):=(ja ya.out 0).trans rfl;have eaj:wc.cell? ⟨Ga,1,none⟩=some (.int .i64 Ub):=(ja ya.out 1).trans rfl;have daj:wc.cell? ⟨Ga,2,none⟩=some (.int .i64 Nb):=(ja ya.out 2).trans rfl;have caj:wc.cell? ⟨Ga,3,none⟩=some (.int .i64 Ob):=(ja ya.out 3).trans rfl;have baj:wc.cell? ⟨Ga,4,none⟩=some (.int .i64 oc):=(ja ya.out 4).trans rfl;have aaj:wc.cell? ⟨Ga,5,none⟩=some (.int .i64 Yc):=(ja ya.out 5).trans rfl;have Zai:wc.cell? ⟨Ga,6,none⟩=some (.string Dd):=(ja ya.out 6).trans rfl;have Kaf:=aa ya.out 0;have Jaf:=aa ya.out 1;have Iaf:=aa ya.out 2;have Haf:=aa ya.out 3;have Gaf:=aa ya.out 4;have Faf:=aa ya.out 5;have Eaf:=aa ya.out 6;go_wp2;go_ret;exact ⟨by first|rfl|(simp [Na,Ma] <;> rfl)|(simp [*,Na,Ma] <;> rfl),by repeat (first|(with_reducible first|exact HB.out|apply oa|apply ia|apply qa|refine ua ?_ Sa.out|refine ua ?_ qc.out)|exact HB.out)⟩
         ·replace c55:=Bool.eq_false_iff.mpr c55;subst c55;have H1:(some false)=some r:=by rw [if_neg (show ¬ (false=true) by decide)] at H;exact H
          clear H;have H:=H1;clear H1;obtain rfl:=Option.some.inj H;have Car:=Bb.out;have Raq:=Cb.out;have Yai:wc.cell? ⟨Ga,0,none⟩=some (.int .i64 Ic):=(ja ya.out 0).trans rfl;have Xai:wc.cell? ⟨Ga,1,none⟩=some (.int .i64 Ub):=(ja ya.out 1).trans rfl;have Wai:wc.cell? ⟨Ga,2,none⟩=some (.int .i64 Nb):=(ja ya.out 2).trans rfl;have Vai:wc.cell? ⟨Ga,3,none⟩=some (.int .i64 Ob):=(ja ya.out 3).trans rfl;have Uai:wc.cell? ⟨Ga,4,none⟩=some (.int .i64 oc):=(ja ya.out 4).trans rfl;have Tai:wc.cell? ⟨Ga,5,none⟩=some (.int .i64 Yc):=(ja ya.out 5).trans rfl;have Sai:wc.cell? ⟨Ga,6,none⟩=some (.string Dd):=(ja ya.out 6).trans rfl;have Daf:=aa ya.out 0;have Caf:=aa ya.out 1;have Baf:=aa ya.out 2;have Aaf:=aa ya.out 3;have zaf:=aa ya.out 4;have yaf:=aa ya.out 5;have xaf:=aa ya.out 6;go_wp2;go_ret;exact ⟨by first|rfl|(simp [Na,Ma] <;> rfl)|(simp [*,Na,Ma] <;> rfl),by repeat (first|(with_reducible first|exact HB.out|apply oa|apply ia|apply qa|refine ua ?_ Sa.out|refine ua ?_ qc.out)|exact HB.out)⟩
        ·replace c54:=Bool.eq_false_iff.mpr c54;subst c54;have H1:(some false)=some r:=by rw [if_neg (show ¬ (false=true) by decide)] at H;exact H
         clear H;have H:=H1;clear H1;obtain rfl:=Option.some.inj H;have Bar:=Bb.out;have Qaq:=Cb.out;have Rai:wc.cell? ⟨Ga,0,none⟩=some (.int .i64 Ic):=(ja ya.out 0).trans rfl;have Qai:wc.cell? ⟨Ga,1,none⟩=some (.int .i64 Ub):=(ja ya.out 1).trans rfl;have Pai:wc.cell? ⟨Ga,2,none⟩=some (.int .i64 Nb):=(ja ya.out 2).trans rfl;have Oai:wc.cell? ⟨Ga,3,none⟩=some (.int .i64 Ob):=(ja ya.out 3).trans rfl;have Nai:wc.cell? ⟨Ga,4,none⟩=some (.int .i64 oc):=(ja ya.out 4).trans rfl;have Mai:wc.cell? ⟨Ga,5,none⟩=some (.int .i64 Yc):=(ja ya.out 5).trans rfl;have Lai:wc.cell? ⟨Ga,6,none⟩=some (.string Dd):=(ja ya.out 6).trans rfl;have waf:=aa ya.out 0;have vaf:=aa ya.out 1;have uaf:=aa ya.out 2;have taf:=aa ya.out 3;have saf:=aa ya.out 4;have raf:=aa ya.out 5;have qaf:=aa ya.out 6;go_wp2;go_ret;exact ⟨by first|rfl|(simp [Na,Ma] <;> rfl)|(simp [*,Na,Ma] <;> rfl),by repeat (first|(with_reducible first|exact HB.out|apply oa|apply ia|apply qa|refine ua ?_ Sa.out|refine ua ?_ qc.out)|exact HB.out)⟩
       ·rw [if_neg tN] at H;have PW:(Ic == 1)=false:=beq_eq_false_iff_ne.mpr tN;have cab:(Ic != 1)=true:=bne_iff_ne.mpr tN
        by_cases D1:Ic=2
        ·rw [if_pos D1] at H;have Zaa:(Ic == 2)=true:=beq_iff_eq.mpr D1;have Yaa:(Ic != 2)=false:=bne_eq_false_iff_eq.mpr D1;clear D1
         by_cases c66:t103=true
         ·subst c66;have H1:(if t104=true then (if t105=true then (if Yc=0 then ((Je.f EM (([(⟨#[61,61]⟩:ByteArray),(⟨#[60]⟩:ByteArray),(⟨#[38]⟩:ByteArray),(⟨#[43]⟩:ByteArray),(⟨#[45]⟩:ByteArray),(⟨#[42]⟩:ByteArray)]:List ByteArray)) Dd).bind fun t111=>(some t111)) else (some false)) else (some false)) else (some false))=some r:=by rw [if_pos rfl] at H;exact H
          clear H;have H:=H1;clear H1
          by_cases c67:t104=true
          ·subst c67;have H1:(if t105=true then (if Yc=0 then ((Je.f EM (([(⟨#[61,61]⟩:ByteArray),(⟨#[60]⟩:ByteArray),(⟨#[38]⟩:ByteArray),(⟨#[43]⟩:ByteArray),(⟨#[45]⟩:ByteArray),(⟨#[42]⟩:ByteArray)]:List ByteArray)) Dd).bind fun t111=>(some t111)) else (some false)) else (some false))=some r:=by rw [if_pos rfl] at H;exact H
           clear H;have H:=H1;clear H1
           by_cases c68:t105=true
           ·subst c68;have H1:(if Yc=0 then ((Je.f EM (([(⟨#[61,61]⟩:ByteArray),(⟨#[60]⟩:ByteArray),(⟨#[38]⟩:ByteArray),(⟨#[43]⟩:ByteArray),(⟨#[45]⟩:ByteArray),(⟨#[42]⟩:ByteArray)]:List ByteArray)) Dd).bind fun t111=>(some t111)) else (some false))=some r:=by rw [if_pos rfl] at H;exact H
            clear H;have H:=H1;clear H1
            by_cases C1:Yc=0
            ·rw [if_pos C1] at H;have Xaa:(Yc == 0)=true:=beq_iff_eq.mpr C1;have Waa:(Yc != 0)=false:=bne_eq_false_iff_eq.mpr C1;clear C1;obtain ⟨Mz,yj⟩:∃ y_:List ByteArray,y_=(([(⟨#[61,61]⟩:ByteArray),(⟨#[60]⟩:ByteArray),(⟨#[38]⟩:ByteArray),(⟨#[43]⟩:ByteArray),(⟨#[45]⟩:ByteArray),(⟨#[42]⟩:ByteArray)]:List ByteArray)):=⟨_,rfl⟩;replace H:((Je.f EM Mz Dd).bind fun t111=>(some t111))=some r:=by first|(rw [yj];with_reducible exact H)|(have Md:=(Option.bind_some _ _).symm.trans H;rw [yj];with_reducible exact Md)|(have Md:=(Option.bind_some _ _).symm.trans H;with_reducible exact Md)|with_reducible exact H|(rw [yj];exact H)|exact H
             have Zt:=ga.mk yj;clear yj;replace H:=Option.bind_eq_some_iff.mp H;obtain ⟨t111,uad,H⟩:=H;replace H:(some t111)=some r:=H;have LH:=ga.mk uad;clear uad;obtain rfl:=Option.some.inj H;have Aar:=Bb.out;have Paq:=Cb.out;have Kai:wc.cell? ⟨Ga,0,none⟩=some (.int .i64 Ic):=(ja ya.out 0).trans rfl;have Jai:wc.cell? ⟨Ga,1,none⟩=some (.int .i64 Ub):=(ja ya.out 1).trans rfl;have Iai:wc.cell? ⟨Ga,2,none⟩=some (.int .i64 Nb):=(ja ya.out 2).trans rfl;have Hai:wc.cell? ⟨Ga,3,none⟩=some (.int .i64 Ob):=(ja ya.out 3).trans rfl;have Gai:wc.cell? ⟨Ga,4,none⟩=some (.int .i64 oc):=(ja ya.out 4).trans rfl;have Fai:wc.cell? ⟨Ga,5,none⟩=some (.int .i64 Yc):=(ja ya.out 5).trans rfl;have Eai:wc.cell? ⟨Ga,6,none⟩=some (.string Dd):=(ja ya.out 6).trans rfl;have paf:=aa ya.out 0;have oaf:=aa ya.out 1;have naf:=aa ya.out 2;have maf:=aa ya.out 3;have laf:=aa ya.out 4;have kaf:=aa ya.out 5;have jaf:=aa ya.out 6;go_wp2_with (first|((with_reducible refine Db (N:=109) rfl ?_);(try (refine Oi (by rfl) ?_;dsimp only));refine Kd.vl Kd.string _ 9 ?hg (N:=109) ?hd (xs:=([(⟨#[61,61]⟩:ByteArray),(⟨#[60]⟩:ByteArray),(⟨#[38]⟩:ByteArray),(⟨#[43]⟩:ByteArray),(⟨#[45]⟩:ByteArray),(⟨#[42]⟩:ByteArray)]:List ByteArray)) (inner:=[.string (⟨#[61,61]⟩:ByteArray),.string (⟨#[60]⟩:ByteArray),.string (⟨#[38]⟩:ByteArray),.string (⟨#[43]⟩:ByteArray),.string (⟨#[45]⟩:ByteArray),.string (⟨#[42]⟩:ByteArray)]) (ok:=fun _=>True) (Gh:=fun _=>True) ?hr ?hp (fun _ hk=>hk) trivial (Below.refl _ _) (Nat.le_refl _) (by simp) ?_;(case hd=>rfl);(case hg=>rfl);(case hr=>first|(go_simp;done)|(go_simp;rfl));(case hp=>exact (Ld.one (show Kd.M Kd.string _ _ _ (⟨#[61,61]⟩:ByteArray) [.string (⟨#[61,61]⟩:ByteArray)] from rfl) (Ld.one (show Kd.M Kd.string _ _ _ (⟨#[60]⟩:ByteArray) [.string (⟨#[60]⟩:ByteArray)] from rfl) (Ld.one (show Kd.M Kd.string _ _ _ (⟨#[38]⟩:ByteArray) [.string (⟨#[38]⟩:ByteArray)] from rfl) (Ld.one (show Kd.M Kd.string _ _ _ (⟨#[43]⟩:ByteArray) [.string (⟨#[43]⟩:ByteArray)] from rfl) (Ld.one (show Kd.M Kd.string _ _ _ (⟨#[45]⟩:ByteArray) [.string (⟨#[45]⟩:ByteArray)] from rfl) (Ld.one (show Kd.M Kd.string _ _ _ (⟨#[42]⟩:ByteArray) [.string (⟨#[42]⟩:ByteArray)] from rfl) (Ld.none _ _))))))));intro v109 gY OO hb um Df;clear um Df;(first|rw [← Zt.out] at OO|(simp only [Int.reduceToNat] at OO;rw [← Zt.out] at OO));have Fb:=ga.mk (Kd.Qe OO (Ka (by repeat (first|(with_reducible first|exact HB.out|apply oa|apply ia|apply qa|refine ua ?_ Sa.out|refine ua ?_ qc.out)|exact HB.out))));have Lb:=ga.mk (Va (g:=za) (o:=.cells #[.slice xb Oa.length qb,.int .i64 La,.int .i64 Pa,.int .i64 Ja,.slice Pb Fa.length Gb] 45 (0,0)) (by (with_reducible repeat (first|refine Ca ?_ _|refine Ea ?_|refine Da ?_ _));exact ta.out) hb);have Vb:=ga.mk (Va (g:=Ga) (o:=.cells #[.int .i64 Ic,.int .i64 Ub,.int .i64 Nb,.int .i64 Ob,.int .i64 oc,.int .i64 Yc,.string Dd] 122 (0,0)) (by (with_reducible repeat (first|refine Ca ?_ _|refine Ea ?_|refine Da ?_ _));exact ya.out) hb);have Bc:=ga.mk (Qa (by repeat (first|(with_reducible first|exact HB.out|apply oa|apply ia|apply qa|refine ua ?_ Sa.out|refine ua ?_ qc.out)|exact HB.out)) hb);clear ta ya HB;have Pq:=Fb;have ta:=Lb;have ya:=Vb;have HB:=Bc;clear Fb Lb Vb Bc hb OO;have Dai:gY.cell? ⟨Ga,0,none⟩=some (.int .i64 Ic):=(ja ya.out 0).trans rfl;have Cai:gY.cell? ⟨Ga,1,none⟩=some (.int .i64 Ub):=(ja ya.out 1).trans rfl;have Bai:gY.cell? ⟨Ga,2,none⟩=some (.int .i64 Nb):=(ja ya.out 2).trans rfl;have Aai:gY.cell? ⟨Ga,3,none⟩=some (.int .i64 Ob):=(ja ya.out 3).trans rfl;have zai:gY.cell? ⟨Ga,4,none⟩=some (.int .i64 oc):=(ja ya.out 4).trans rfl;have yai:gY.cell? ⟨Ga,5,none⟩=some (.int .i64 Yc):=(ja ya.out 5).trans rfl;have xai:gY.cell? ⟨Ga,6,none⟩=some (.string Dd):=(ja ya.out 6).trans rfl;have iaf:=aa ya.out 0;have haf:=aa ya.out 1;have gaf:=aa ya.out 2;have faf:=aa ya.out 3;have eaf:=aa ya.out 4;have daf:=aa ya.out 5;have caf:=aa ya.out 6;obtain ⟨Daw,Gav,fao⟩:=Kd.Jd Pq.out;subst fao)|(go_at_call 135;(with_reducible refine (Je.calls EM _ _ Mz Dd t111 _ ?yc ?uc LH.out).mono ?_);(case yc=>repeat (first|exact (Kd.Tb Pq.out).2.2|(with_reducible refine Kd.Sb ?_ _)|(with_reducible refine Kd.Rb ?_ _)|(with_reducible refine Kd.jc ?_)));(case uc=>exact (Kd.Tb Pq.out).2.1);rintro e w' ⟨rfl,⟨nd,rfl⟩⟩));go_ret;exact ⟨by first|rfl|(simp [Na,Ma] <;> rfl)|(simp [*,Na,Ma] <;> rfl),by repeat (first|(with_reducible first|exact HB.out|apply oa|apply ia|apply qa|refine ua ?_ Sa.out|refine ua ?_ qc.out)|exact HB.out)⟩
            ·rw [if_neg C1] at H;have Xaa:(Yc == 0)=false:=beq_eq_false_iff_ne.mpr C1;have Waa:(Yc != 0)=true:=bne_iff_ne.mpr C1;obtain rfl:=Option.some.inj H;have zar:=Bb.out;have Oaq:=Cb.out;have wai:wc.cell? ⟨Ga,0,none⟩=some (.int .i64 Ic):=(ja ya.out 0).trans rfl;have vai:wc.cell? ⟨Ga,1,none⟩=some (.int .i64 Ub):=(ja ya.out 1).trans rfl;have uai:wc.cell? ⟨Ga,2,none⟩=some (.int .i64 Nb):=(ja ya.out 2).trans rfl;have tai:wc.cell? ⟨Ga,3,none⟩=some (.int .i64 Ob):=(ja ya.out 3).trans rfl;have sai:wc.cell? ⟨Ga,4,none⟩=some (.int .i64 oc):=(ja ya.out 4).trans rfl;have rai:wc.cell? ⟨Ga,5,none⟩=some (.int .i64 Yc):=(ja ya.out 5).trans rfl;have qai:wc.cell? ⟨Ga,6,none⟩=some (.string Dd):=(ja ya.out 6).trans rfl;have baf:=aa ya.out 0;have aaf:=aa ya.out 1;have Zae:=aa ya.out 2;have Yae:=aa ya.out 3;have Xae:=aa ya.out 4;have Wae:=aa ya.out 5;have Vae:=aa ya.out 6;go_wp2;go_ret;exact ⟨by first|rfl|(simp [Na,Ma] <;> rfl)|(simp [*,Na,Ma] <;> rfl),by repeat (first|(with_reducible first|exact HB.out|apply oa|apply ia|apply qa|refine ua ?_ Sa.out|refine ua ?_ qc.out)|exact HB.out)⟩
           ·replace c68:=Bool.eq_false_iff.mpr c68;subst c68;have H1:(some false)=some r:=by rw [if_neg (show ¬ (false=true) by decide)] at H;exact H
            clear H;have H:=H1;clear H1;obtain rfl:=Option.some.inj H;have yar:=Bb.out;have Naq:=Cb.out;have pai:wc.cell? ⟨Ga,0,none⟩=some (.int .i64 Ic):=(ja ya.out 0).trans rfl;have oai:wc.cell? ⟨Ga,1,none⟩=some (.int .i64 Ub):=(ja ya.out 1).trans rfl;have nai:wc.cell? ⟨Ga,2,none⟩=some (.int .i64 Nb):=(ja ya.out 2).trans rfl;have mai:wc.cell? ⟨Ga,3,none⟩=some (.int .i64 Ob):=(ja ya.out 3).trans rfl;have lai:wc.cell? ⟨Ga,4,none⟩=some (.int .i64 oc):=(ja ya.out 4).trans rfl;have kai:wc.cell? ⟨Ga,5,none⟩=some (.int .i64 Yc):=(ja ya.out 5).trans rfl;have jai:wc.cell? ⟨Ga,6,none⟩=some (.string Dd):=(ja ya.out 6).trans rfl;have Uae:=aa ya.out 0;have Tae:=aa ya.out 1;have Sae:=aa ya.out 2;have Rae:=aa ya.out 3;have Qae:=aa ya.out 4;have Pae:=aa ya.out 5;have Oae:=aa ya.out 6;go_wp2;go_ret;exact ⟨by first|rfl|(simp [Na,Ma] <;> rfl)|(simp [*,Na,Ma] <;> rfl),by repeat (first|(with_reducible first|exact HB.out|apply oa|apply ia|apply qa|refine ua ?_ Sa.out|refine ua ?_ qc.out)|exact HB.out)⟩
          ·replace c67:=Bool.eq_false_iff.mpr c67;subst c67;have H1:(some false)=some r:=by rw [if_neg (show ¬ (false=true) by decide)] at H;exact H
           clear H;have H:=H1;clear H1;obtain rfl:=Option.some.inj H;have xar:=Bb.out;have Maq:=Cb.out;have iai:wc.cell? ⟨Ga,0,none⟩=some (.int .i64 Ic):=(ja ya.out 0).trans rfl;have gai:wc.cell? ⟨Ga,1,none⟩=some (.int .i64 Ub):=(ja ya.out 1).trans rfl;have fai:wc.cell? ⟨Ga,2,none⟩=some (.int .i64 Nb):=(ja ya.out 2).trans rfl;have eai:wc.cell? ⟨Ga,3,none⟩=some (.int .i64 Ob):=(ja ya.out 3).trans rfl;have dai:wc.cell? ⟨Ga,4,none⟩=some (.int .i64 oc):=(ja ya.out 4).trans rfl;have cai:wc.cell? ⟨Ga,5,none⟩=some (.int .i64 Yc):=(ja ya.out 5).trans rfl;have bai:wc.cell? ⟨Ga,6,none⟩=some (.string Dd):=(ja ya.out 6).trans rfl;have Nae:=aa ya.out 0;have Mae:=aa ya.out 1;have Lae:=aa ya.out 2;have Kae:=aa ya.out 3;have Jae:=aa ya.out 4;have Iae:=aa ya.out 5;have Hae:=aa ya.out 6;go_wp2;go_ret;exact ⟨by first|rfl|(simp [Na,Ma] <;> rfl)|(simp [*,Na,Ma] <;> rfl),by repeat (first|(with_reducible first|exact HB.out|apply oa|apply ia|apply qa|refine ua ?_ Sa.out|refine ua ?_ qc.out)|exact HB.out)⟩
         ·replace c66:=Bool.eq_false_iff.mpr c66;subst c66;have H1:(some false)=some r:=by rw [if_neg (show ¬ (false=true) by decide)] at H;exact H
          clear H;have H:=H1;clear H1;obtain rfl:=Option.some.inj H;have war:=Bb.out;have Laq:=Cb.out;have aai:wc.cell? ⟨Ga,0,none⟩=some (.int .i64 Ic):=(ja ya.out 0).trans rfl;have Zah:wc.cell? ⟨Ga,1,none⟩=some (.int .i64 Ub):=(ja ya.out 1).trans rfl;have Yah:wc.cell? ⟨Ga,2,none⟩=some (.int .i64 Nb):=(ja ya.out 2).trans rfl;have Xah:wc.cell? ⟨Ga,3,none⟩=some (.int .i64 Ob):=(ja ya.out 3).trans rfl;have Wah:wc.cell? ⟨Ga,4,none⟩=some (.int .i64 oc):=(ja ya.out 4).trans rfl;have Vah:wc.cell? ⟨Ga,5,none⟩=some (.int .i64 Yc):=(ja ya.out 5).trans rfl;have Uah:wc.cell? ⟨Ga,6,none⟩=some (.string Dd):=(ja ya.out 6).trans rfl;have Gae:=aa ya.out 0;have Fae:=aa ya.out 1;have Eae:=aa ya.out 2;have Dae:=aa ya.out 3;have Cae:=aa ya.out 4;have Bae:=aa ya.out 5;have Aae:=aa ya.out 6;go_wp2;go_ret;exact ⟨by first|rfl|(simp [Na,Ma] <;> rfl)|(simp [*,Na,Ma] <;> rfl),by repeat (first|(with_reducible first|exact HB.out|apply oa|apply ia|apply qa|refine ua ?_ Sa.out|refine ua ?_ qc.out)|exact HB.out)⟩
        ·rw [if_neg D1] at H;have Zaa:(Ic == 2)=false:=beq_eq_false_iff_ne.mpr D1;have Yaa:(Ic != 2)=true:=bne_iff_ne.mpr D1
         by_cases Z0:Ic=3
         ·rw [if_pos Z0] at H;have Vaa:(Ic == 3)=true:=beq_iff_eq.mpr Z0;have Uaa:(Ic != 3)=false:=bne_eq_false_iff_eq.mpr Z0;clear Z0
          by_cases c86:t103=true
          ·subst c86;have H1:(some zF)=some r:=by rw [if_pos rfl] at H;exact H
           clear H;have H:=H1;clear H1;obtain rfl:=Option.some.inj H;have uar:=Bb.out;have Kaq:=Cb.out;have Tah:wc.cell? ⟨Ga,0,none⟩=some (.int .i64 Ic):=(ja ya.out 0).trans rfl;have Sah:wc.cell? ⟨Ga,1,none⟩=some (.int .i64 Ub):=(ja ya.out 1).trans rfl;have Rah:wc.cell? ⟨Ga,2,none⟩=some (.int .i64 Nb):=(ja ya.out 2).trans rfl;have Qah:wc.cell? ⟨Ga,3,none⟩=some (.int .i64 Ob):=(ja ya.out 3).trans rfl;have Pah:wc.cell? ⟨Ga,4,none⟩=some (.int .i64 oc):=(ja ya.out 4).trans rfl;have Oah:wc.cell? ⟨Ga,5,none⟩=some (.int .i64 Yc):=(ja ya.out 5).trans rfl;have Nah:wc.cell? ⟨Ga,6,none⟩=some (.string Dd):=(ja ya.out 6).trans rfl;have zae:=aa ya.out 0;have yae:=aa ya.out 1;have xae:=aa ya.out 2;have wae:=aa ya.out 3;have vae:=aa ya.out 4;have uae:=aa ya.out 5;have tae:=aa ya.out 6;go_wp2;go_ret;exact ⟨by first|rfl|(simp [Na,Ma] <;> rfl)|(simp [*,Na,Ma] <;> rfl),by repeat (first|(with_reducible first|exact HB.out|apply oa|apply ia|apply qa|refine ua ?_ Sa.out|refine ua ?_ qc.out)|exact HB.out)⟩
          ·replace c86:=Bool.eq_false_iff.mpr c86;subst c86;have H1:(some false)=some r:=by rw [if_neg (show ¬ (false=true) by decide)] at H;exact H
           clear H;have H:=H1;clear H1;obtain rfl:=Option.some.inj H;have tar:=Bb.out;have Jaq:=Cb.out;have Mah:wc.cell? ⟨Ga,0,none⟩=some (.int .i64 Ic):=(ja ya.out 0).trans rfl;have Lah:wc.cell? ⟨Ga,1,none⟩=some (.int .i64 Ub):=(ja ya.out 1).trans rfl;have Kah:wc.cell? ⟨Ga,2,none⟩=some (.int .i64 Nb):=(ja ya.out 2).trans rfl;have Jah:wc.cell? ⟨Ga,3,none⟩=some (.int .i64 Ob):=(ja ya.out 3).trans rfl;have Iah:wc.cell? ⟨Ga,4,none⟩=some (.int .i64 oc):=(ja ya.out 4).trans rfl;have Hah:wc.cell? ⟨Ga,5,none⟩=some (.int .i64 Yc):=(ja ya.out 5).trans rfl;have Gah:wc.cell? ⟨Ga,6,none⟩=some (.string Dd):=(ja ya.out 6).trans rfl;have sae:=aa ya.out 0;have rae:=aa ya.out 1;have qae:=aa ya.out 2;have pae:=aa ya.out 3;have oae:=aa ya.out 4;have nae:=aa ya.out 5;have mae:=aa ya.out 6;go_wp2;go_ret;exact ⟨by first|rfl|(simp [Na,Ma] <;> rfl)|(simp [*,Na,Ma] <;> rfl),by repeat (first|(with_reducible first|exact HB.out|apply oa|apply ia|apply qa|refine ua ?_ Sa.out|refine ua ?_ qc.out)|exact HB.out)⟩
         ·rw [if_neg Z0] at H;have Vaa:(Ic == 3)=false:=beq_eq_false_iff_ne.mpr Z0;have Uaa:(Ic != 3)=true:=bne_iff_ne.mpr Z0
          by_cases Y0:Ic=4
          ·rw [if_pos Y0] at H;have Taa:(Ic == 4)=true:=beq_iff_eq.mpr Y0;have Saa:(Ic != 4)=false:=bne_eq_false_iff_eq.mpr Y0;clear Y0
           by_cases X0:Ub=0
           ·rw [if_pos X0] at H;have Raa:(Ub == 0)=true:=beq_iff_eq.mpr X0;have Qaa:(Ub != 0)=false:=bne_eq_false_iff_eq.mpr X0;clear X0
            by_cases c93:zF=true
            ·subst c93;have H1:((Za.f oc 0 (wrap64 (Ja - 1))).bind fun t112=>(some t112))=some r:=by rw [if_pos rfl] at H;exact H
             clear H;have H:=H1;clear H1;replace H:=Option.bind_eq_some_iff.mp H;obtain ⟨t112,tad,H⟩:=H;replace H:(some t112)=some r:=H;have A94:=ga.mk tad;clear tad;obtain rfl:=Option.some.inj H;have sar:=Bb.out;have Iaq:=Cb.out;have Fah:wc.cell? ⟨Ga,0,none⟩=some (.int .i64 Ic):=(ja ya.out 0).trans rfl;have Eah:wc.cell? ⟨Ga,1,none⟩=some (.int .i64 Ub):=(ja ya.out 1).trans rfl;have Dah:wc.cell? ⟨Ga,2,none⟩=some (.int .i64 Nb):=(ja ya.out 2).trans rfl;have Cah:wc.cell? ⟨Ga,3,none⟩=some (.int .i64 Ob):=(ja ya.out 3).trans rfl;have Bah:wc.cell? ⟨Ga,4,none⟩=some (.int .i64 oc):=(ja ya.out 4).trans rfl;have Aah:wc.cell? ⟨Ga,5,none⟩=some (.int .i64 Yc):=(ja ya.out 5).trans rfl;have zah:wc.cell? ⟨Ga,6,none⟩=some (.string Dd):=(ja ya.out 6).trans rfl;have lae:=aa ya.out 0;have kae:=aa ya.out 1;have jae:=aa ya.out 2;have iae:=aa ya.out 3;have hae:=aa ya.out 4;have gae:=aa ya.out 5;have fae:=aa ya.out 6;have yah:wc.cell? ⟨za,0,none⟩=some (.slice xb Oa.length qb):=(ja ta.out 0).trans rfl;have xah:wc.cell? ⟨za,1,none⟩=some (.int .i64 La):=(ja ta.out 1).trans rfl;have wah:wc.cell? ⟨za,2,none⟩=some (.int .i64 Pa):=(ja ta.out 2).trans rfl;have vah:wc.cell? ⟨za,3,none⟩=some (.int .i64 Ja):=(ja ta.out 3).trans rfl;have uah:wc.cell? ⟨za,4,none⟩=some (.slice Pb Fa.length Gb):=(ja ta.out 4).trans rfl;have eae:=aa ta.out 0;have dae:=aa ta.out 1;have cae:=aa ta.out 2;have bae:=aa ta.out 3;have aae:=aa ta.out 4;go_wp2_with (first|(go_at_call 81;(with_reducible refine (Za.calls oc 0 (wrap64 (Ja - 1)) t112 _ A94.out).mono ?_);rintro e w' ⟨rfl,⟨nd,rfl⟩⟩));go_ret;exact ⟨by first|rfl|(simp [Na,Ma] <;> rfl)|(simp [*,Na,Ma] <;> rfl),by repeat (first|(with_reducible first|exact HB.out|apply oa|apply ia|apply qa|refine ua ?_ Sa.out|refine ua ?_ qc.out)|exact HB.out)⟩
            ·replace c93:=Bool.eq_false_iff.mpr c93;subst c93;have H1:(some false)=some r:=by rw [if_neg (show ¬ (false=true) by decide)] at H;exact H
             clear H;have H:=H1;clear H1;obtain rfl:=Option.some.inj H;have rar:=Bb.out;have Haq:=Cb.out;have tah:wc.cell? ⟨Ga,0,none⟩=some (.int .i64 Ic):=(ja ya.out 0).trans rfl;have sah:wc.cell? ⟨Ga,1,none⟩=some (.int .i64 Ub):=(ja ya.out 1).trans rfl;have rah:wc.cell? ⟨Ga,2,none⟩=some (.int .i64 Nb):=(ja ya.out 2).trans rfl;have qah:wc.cell? ⟨Ga,3,none⟩=some (.int .i64 Ob):=(ja ya.out 3).trans rfl;have pah:wc.cell? ⟨Ga,4,none⟩=some (.int .i64 oc):=(ja ya.out 4).trans rfl;have oah:wc.cell? ⟨Ga,5,none⟩=some (.int .i64 Yc):=(ja ya.out 5).trans rfl;have nah:wc.cell? ⟨Ga,6,none⟩=some (.string Dd):=(ja ya.out 6).trans rfl;have Zad:=aa ya.out 0;have Yad:=aa ya.out 1;have Xad:=aa ya.out 2;have Wad:=aa ya.out 3;have Vad:=aa ya.out 4;have Uad:=aa ya.out 5;have Tad:=aa ya.out 6;go_wp2;go_ret;exact ⟨by first|rfl|(simp [Na,Ma] <;> rfl)|(simp [*,Na,Ma] <;> rfl),by repeat (first|(with_reducible first|exact HB.out|apply oa|apply ia|apply qa|refine ua ?_ Sa.out|refine ua ?_ qc.out)|exact HB.out)⟩
           ·rw [if_neg X0] at H;have Raa:(Ub == 0)=false:=beq_eq_false_iff_ne.mpr X0;have Qaa:(Ub != 0)=true:=bne_iff_ne.mpr X0;obtain rfl:=Option.some.inj H;have aan:=Bb.out;have Mam:=Cb.out;have jaa:wc.cell? ⟨Ga,0,none⟩=some (.int .i64 Ic):=(ja ya.out 0).trans rfl;have iaa:wc.cell? ⟨Ga,1,none⟩=some (.int .i64 Ub):=(ja ya.out 1).trans rfl;have haa:wc.cell? ⟨Ga,2,none⟩=some (.int .i64 Nb):=(ja ya.out 2).trans rfl;have gaa:wc.cell? ⟨Ga,3,none⟩=some (.int .i64 Ob):=(ja ya.out 3).trans rfl;have faa:wc.cell? ⟨Ga,4,none⟩=some (.int .i64 oc):=(ja ya.out 4).trans rfl;have eaa:wc.cell? ⟨Ga,5,none⟩=some (.int .i64 Yc):=(ja ya.out 5).trans rfl;have daa:wc.cell? ⟨Ga,6,none⟩=some (.string Dd):=(ja ya.out 6).trans rfl;have A9:=aa ya.out 0;have y9:=aa ya.out 1;have u9:=aa ya.out 2;have r9:=aa ya.out 3;have o9:=aa ya.out 4;have n9:=aa ya.out 5;have l9:=aa ya.out 6;go_wp2;go_ret;exact ⟨by first|rfl|(simp [Na,Ma] <;> rfl)|(simp [*,Na,Ma] <;> rfl),by repeat (first|(with_reducible first|exact HB.out|apply oa|apply ia|apply qa|refine ua ?_ Sa.out|refine ua ?_ qc.out)|exact HB.out)⟩
          ·rw [if_neg Y0] at H;have Taa:(Ic == 4)=false:=beq_eq_false_iff_ne.mpr Y0;have Saa:(Ic != 4)=true:=bne_iff_ne.mpr Y0
           by_cases iJ:Ic=5
           ·rw [if_pos iJ] at H;have F2:(Ic == 5)=true:=beq_iff_eq.mpr iJ;have E2:(Ic != 5)=false:=bne_eq_false_iff_eq.mpr iJ;clear iJ
            by_cases rV:t103=true
            ·subst rV;have H1:(if Nb=0 then (if Ob=0 then (some (Yc == 0)) else (some false)) else (some false))=some r:=by rw [if_pos rfl] at H;exact H
             clear H;have H:=H1;clear H1
             by_cases gJ:Nb=0
             ·rw [if_pos gJ] at H;have C2:(Nb == 0)=true:=beq_iff_eq.mpr gJ;have Z1:(Nb != 0)=false:=bne_eq_false_iff_eq.mpr gJ;clear gJ
              by_cases fJ:Ob=0
              ·rw [if_pos fJ] at H;have Y1:(Ob == 0)=true:=beq_iff_eq.mpr fJ;have X1:(Ob != 0)=false:=bne_eq_false_iff_eq.mpr fJ;clear fJ;obtain rfl:=Option.some.inj H;have Zam:=Bb.out;have Lam:=Cb.out;have caa:wc.cell? ⟨Ga,0,none⟩=some (.int .i64 Ic):=(ja ya.out 0).trans rfl;have baa:wc.cell? ⟨Ga,1,none⟩=some (.int .i64 Ub):=(ja ya.out 1).trans rfl;have aaa:wc.cell? ⟨Ga,2,none⟩=some (.int .i64 Nb):=(ja ya.out 2).trans rfl;have Z_:wc.cell? ⟨Ga,3,none⟩=some (.int .i64 Ob):=(ja ya.out 3).trans rfl;have Y_:wc.cell? ⟨Ga,4,none⟩=some (.int .i64 oc):=(ja ya.out 4).trans rfl;have X_:wc.cell? ⟨Ga,5,none⟩=some (.int .i64 Yc):=(ja ya.out 5).trans rfl;have V_:wc.cell? ⟨Ga,6,none⟩=some (.string Dd):=(ja ya.out 6).trans rfl;have k9:=aa ya.out 0;have j9:=aa ya.out 1;have e9:=aa ya.out 2;have Z8:=aa ya.out 3;have Y8:=aa ya.out 4;have X8:=aa ya.out 5;have W8:=aa ya.out 6;go_wp2;go_ret;exact ⟨by first|rfl|(simp [Na,Ma] <;> rfl)|(simp [*,Na,Ma] <;> rfl),by repeat (first|(with_reducible first|exact HB.out|apply oa|apply ia|apply qa|refine ua ?_ Sa.out|refine ua ?_ qc.out)|exact HB.out)⟩
              ·rw [if_neg fJ] at H;have Y1:(Ob == 0)=false:=beq_eq_false_iff_ne.mpr fJ;have X1:(Ob != 0)=true:=bne_iff_ne.mpr fJ;obtain rfl:=Option.some.inj H;have Yam:=Bb.out;have Kam:=Cb.out;have U_:wc.cell? ⟨Ga,0,none⟩=some (.int .i64 Ic):=(ja ya.out 0).trans rfl;have T_:wc.cell? ⟨Ga,1,none⟩=some (.int .i64 Ub):=(ja ya.out 1).trans rfl;have S_:wc.cell? ⟨Ga,2,none⟩=some (.int .i64 Nb):=(ja ya.out 2).trans rfl;have R_:wc.cell? ⟨Ga,3,none⟩=some (.int .i64 Ob):=(ja ya.out 3).trans rfl;have Q_:wc.cell? ⟨Ga,4,none⟩=some (.int .i64 oc):=(ja ya.out 4).trans rfl;have O_:wc.cell? ⟨Ga,5,none⟩=some (.int .i64 Yc):=(ja ya.out 5).trans rfl;have N_:wc.cell? ⟨Ga,6,none⟩=some (.string Dd):=(ja ya.out 6).trans rfl;have V8:=aa ya.out 0;have U8:=aa ya.out 1;have R8:=aa ya.out 2;have Q8:=aa ya.out 3;have P8:=aa ya.out 4;have O8:=aa ya.out 5;have N8:=aa ya.out 6;go_wp2;go_ret;exact ⟨by first|rfl|(simp [Na,Ma] <;> rfl)|(simp [*,Na,Ma] <;> rfl),by repeat (first|(with_reducible first|exact HB.out|apply oa|apply ia|apply qa|refine ua ?_ Sa.out|refine ua ?_ qc.out)|exact HB.out)⟩
             ·rw [if_neg gJ] at H;have C2:(Nb == 0)=false:=beq_eq_false_iff_ne.mpr gJ;have Z1:(Nb != 0)=true:=bne_iff_ne.mpr gJ;obtain rfl:=Option.some.inj H;have Xam:=Bb.out;have Jam:=Cb.out;have M_:wc.cell? ⟨Ga,0,none⟩=some (.int .i64 Ic):=(ja ya.out 0).trans rfl;have L_:wc.cell? ⟨Ga,1,none⟩=some (.int .i64 Ub):=(ja ya.out 1).trans rfl;have K_:wc.cell? ⟨Ga,2,none⟩=some (.int .i64 Nb):=(ja ya.out 2).trans rfl;have J_:wc.cell? ⟨Ga,3,none⟩=some (.int .i64 Ob):=(ja ya.out 3).trans rfl;have I_:wc.cell? ⟨Ga,4,none⟩=some (.int .i64 oc):=(ja ya.out 4).trans rfl;have H_:wc.cell? ⟨Ga,5,none⟩=some (.int .i64 Yc):=(ja ya.out 5).trans rfl;have G_:wc.cell? ⟨Ga,6,none⟩=some (.string Dd):=(ja ya.out 6).trans rfl;have M8:=aa ya.out 0;have L8:=aa ya.out 1;have K8:=aa ya.out 2;have J8:=aa ya.out 3;have I8:=aa ya.out 4;have H8:=aa ya.out 5;have G8:=aa ya.out 6;go_wp2;go_ret;exact ⟨by first|rfl|(simp [Na,Ma] <;> rfl)|(simp [*,Na,Ma] <;> rfl),by repeat (first|(with_reducible first|exact HB.out|apply oa|apply ia|apply qa|refine ua ?_ Sa.out|refine ua ?_ qc.out)|exact HB.out)⟩
            ·replace rV:=Bool.eq_false_iff.mpr rV;subst rV;have H1:(some false)=some r:=by rw [if_neg (show ¬ (false=true) by decide)] at H;exact H
             clear H;have H:=H1;clear H1;obtain rfl:=Option.some.inj H;have Wam:=Bb.out;have Iam:=Cb.out;have F_:wc.cell? ⟨Ga,0,none⟩=some (.int .i64 Ic):=(ja ya.out 0).trans rfl;have E_:wc.cell? ⟨Ga,1,none⟩=some (.int .i64 Ub):=(ja ya.out 1).trans rfl;have D_:wc.cell? ⟨Ga,2,none⟩=some (.int .i64 Nb):=(ja ya.out 2).trans rfl;have C_:wc.cell? ⟨Ga,3,none⟩=some (.int .i64 Ob):=(ja ya.out 3).trans rfl;have B_:wc.cell? ⟨Ga,4,none⟩=some (.int .i64 oc):=(ja ya.out 4).trans rfl;have A_:wc.cell? ⟨Ga,5,none⟩=some (.int .i64 Yc):=(ja ya.out 5).trans rfl;have z_:wc.cell? ⟨Ga,6,none⟩=some (.string Dd):=(ja ya.out 6).trans rfl;have F8:=aa ya.out 0;have E8:=aa ya.out 1;have D8:=aa ya.out 2;have C8:=aa ya.out 3;have y8:=aa ya.out 4;have r8:=aa ya.out 5;have o8:=aa ya.out 6;go_wp2;go_ret;exact ⟨by first|rfl|(simp [Na,Ma] <;> rfl)|(simp [*,Na,Ma] <;> rfl),by repeat (first|(with_reducible first|exact HB.out|apply oa|apply ia|apply qa|refine ua ?_ Sa.out|refine ua ?_ qc.out)|exact HB.out)⟩
           ·rw [if_neg iJ] at H;have F2:(Ic == 5)=false:=beq_eq_false_iff_ne.mpr iJ;have E2:(Ic != 5)=true:=bne_iff_ne.mpr iJ
            by_cases dJ:Ic=6
            ·rw [if_pos dJ] at H;have U1:(Ic == 6)=true:=beq_iff_eq.mpr dJ;have T1:(Ic != 6)=false:=bne_eq_false_iff_eq.mpr dJ;clear dJ
             by_cases cJ:Ub=0
             ·rw [if_pos cJ] at H;have O1:(Ub == 0)=true:=beq_iff_eq.mpr cJ;have N1:(Ub != 0)=false:=bne_eq_false_iff_eq.mpr cJ;clear cJ
              by_cases qV:t104=true
              ·subst qV;have H1:(if Ob=0 then (some (Yc == 0)) else (some false))=some r:=by rw [if_pos rfl] at H;exact H
               clear H;have H:=H1;clear H1
               by_cases bJ:Ob=0
               ·rw [if_pos bJ] at H;have L1:(Ob == 0)=true:=beq_iff_eq.mpr bJ;have K1:(Ob != 0)=false:=bne_eq_false_iff_eq.mpr bJ;clear bJ;obtain rfl:=Option.some.inj H;have Vam:=Bb.out;have Ham:=Cb.out;have x_:wc.cell? ⟨Ga,0,none⟩=some (.int .i64 Ic):=(ja ya.out 0).trans rfl;have w_:wc.cell? ⟨Ga,1,none⟩=some (.int .i64 Ub):=(ja ya.out 1).trans rfl;have v_:wc.cell? ⟨Ga,2,none⟩=some (.int .i64 Nb):=(ja ya.out 2).trans rfl;have u_:wc.cell? ⟨Ga,3,none⟩=some (.int .i64 Ob):=(ja ya.out 3).trans rfl;have t_:wc.cell? ⟨Ga,4,none⟩=some (.int .i64 oc):=(ja ya.out 4).trans rfl;have r_:wc.cell? ⟨Ga,5,none⟩=some (.int .i64 Yc):=(ja ya.out 5).trans rfl;have q_:wc.cell? ⟨Ga,6,none⟩=some (.string Dd):=(ja ya.out 6).trans rfl;have n8:=aa ya.out 0;have l8:=aa ya.out 1;have k8:=aa ya.out 2;have j8:=aa ya.out 3;have e8:=aa ya.out 4;have Z7:=aa ya.out 5;have Y7:=aa ya.out 6;go_wp2;go_ret;exact ⟨by first|rfl|(simp [Na,Ma] <;> rfl)|(simp [*,Na,Ma] <;> rfl),by repeat (first|(with_reducible first|exact HB.out|apply oa|apply ia|apply qa|refine ua ?_ Sa.out|refine ua ?_ qc.out)|exact HB.out)⟩
               ·rw [if_neg bJ] at H;have L1:(Ob == 0)=false:=beq_eq_false_iff_ne.mpr bJ;have K1:(Ob != 0)=true:=bne_iff_ne.mpr bJ;obtain rfl:=Option.some.inj H;have Uam:=Bb.out;have Gam:=Cb.out;have p_:wc.cell? ⟨Ga,0,none⟩=some (.int .i64 Ic):=(ja ya.out 0).trans rfl;have o_:wc.cell? ⟨Ga,1,none⟩=some (.int .i64 Ub):=(ja ya.out 1).trans rfl;have l_:wc.cell? ⟨Ga,2,none⟩=some (.int .i64 Nb):=(ja ya.out 2).trans rfl;have i_:wc.cell? ⟨Ga,3,none⟩=some (.int .i64 Ob):=(ja ya.out 3).trans rfl;have g_:wc.cell? ⟨Ga,4,none⟩=some (.int .i64 oc):=(ja ya.out 4).trans rfl;have f_:wc.cell? ⟨Ga,5,none⟩=some (.int .i64 Yc):=(ja ya.out 5).trans rfl;have d_:wc.cell? ⟨Ga,6,none⟩=some (.string Dd):=(ja ya.out 6).trans rfl;have X7:=aa ya.out 0;have W7:=aa ya.out 1;have V7:=aa ya.out 2;have U7:=aa ya.out 3;have T7:=aa ya.out 4;have R7:=aa ya.out 5;have Q7:=aa ya.out 6;go_wp2;go_ret;exact ⟨by first|rfl|(simp [Na,Ma] <;> rfl)|(simp [*,Na,Ma] <;> rfl),by repeat (first|(with_reducible first|exact HB.out|apply oa|apply ia|apply qa|refine ua ?_ Sa.out|refine ua ?_ qc.out)|exact HB.out)⟩
              ·replace qV:=Bool.eq_false_iff.mpr qV;subst qV;have H1:(some false)=some r:=by rw [if_neg (show ¬ (false=true) by decide)] at H;exact H
               clear H;have H:=H1;clear H1;obtain rfl:=Option.some.inj H;have Tam:=Bb.out;have Fam:=Cb.out;have Z9:wc.cell? ⟨Ga,0,none⟩=some (.int .i64 Ic):=(ja ya.out 0).trans rfl;have Y9:wc.cell? ⟨Ga,1,none⟩=some (.int .i64 Ub):=(ja ya.out 1).trans rfl;have X9:wc.cell? ⟨Ga,2,none⟩=some (.int .i64 Nb):=(ja ya.out 2).trans rfl;have W9:wc.cell? ⟨Ga,3,none⟩=some (.int .i64 Ob):=(ja ya.out 3).trans rfl;have V9:wc.cell? ⟨Ga,4,none⟩=some (.int .i64 oc):=(ja ya.out 4).trans rfl;have U9:wc.cell? ⟨Ga,5,none⟩=some (.int .i64 Yc):=(ja ya.out 5).trans rfl;have T9:wc.cell? ⟨Ga,6,none⟩=some (.string Dd):=(ja ya.out 6).trans rfl;have P7:=aa ya.out 0;have O7:=aa ya.out 1;have N7:=aa ya.out 2;have M7:=aa ya.out 3;have L7:=aa ya.out 4;have K7:=aa ya.out 5;have J7:=aa ya.out 6;go_wp2;go_ret;exact ⟨by first|rfl|(simp [Na,Ma] <;> rfl)|(simp [*,Na,Ma] <;> rfl),by repeat (first|(with_reducible first|exact HB.out|apply oa|apply ia|apply qa|refine ua ?_ Sa.out|refine ua ?_ qc.out)|exact HB.out)⟩
             ·rw [if_neg cJ] at H;have O1:(Ub == 0)=false:=beq_eq_false_iff_ne.mpr cJ;have N1:(Ub != 0)=true:=bne_iff_ne.mpr cJ;obtain rfl:=Option.some.inj H;have Sam:=Bb.out;have Eam:=Cb.out;have S9:wc.cell? ⟨Ga,0,none⟩=some (.int .i64 Ic):=(ja ya.out 0).trans rfl;have R9:wc.cell? ⟨Ga,1,none⟩=some (.int .i64 Ub):=(ja ya.out 1).trans rfl;have Q9:wc.cell? ⟨Ga,2,none⟩=some (.int .i64 Nb):=(ja ya.out 2).trans rfl;have P9:wc.cell? ⟨Ga,3,none⟩=some (.int .i64 Ob):=(ja ya.out 3).trans rfl;have O9:wc.cell? ⟨Ga,4,none⟩=some (.int .i64 oc):=(ja ya.out 4).trans rfl;have N9:wc.cell? ⟨Ga,5,none⟩=some (.int .i64 Yc):=(ja ya.out 5).trans rfl;have M9:wc.cell? ⟨Ga,6,none⟩=some (.string Dd):=(ja ya.out 6).trans rfl;have I7:=aa ya.out 0;have H7:=aa ya.out 1;have G7:=aa ya.out 2;have F7:=aa ya.out 3;have E7:=aa ya.out 4;have D7:=aa ya.out 5;have C7:=aa ya.out 6;go_wp2;go_ret;exact ⟨by first|rfl|(simp [Na,Ma] <;> rfl)|(simp [*,Na,Ma] <;> rfl),by repeat (first|(with_reducible first|exact HB.out|apply oa|apply ia|apply qa|refine ua ?_ Sa.out|refine ua ?_ qc.out)|exact HB.out)⟩
            ·rw [if_neg dJ] at H;have U1:(Ic == 6)=false:=beq_eq_false_iff_ne.mpr dJ;have T1:(Ic != 6)=true:=bne_iff_ne.mpr dJ;obtain rfl:=Option.some.inj H;have Ram:=Bb.out;have Dam:=Cb.out;have L9:wc.cell? ⟨Ga,0,none⟩=some (.int .i64 Ic):=(ja ya.out 0).trans rfl;have K9:wc.cell? ⟨Ga,1,none⟩=some (.int .i64 Ub):=(ja ya.out 1).trans rfl;have J9:wc.cell? ⟨Ga,2,none⟩=some (.int .i64 Nb):=(ja ya.out 2).trans rfl;have I9:wc.cell? ⟨Ga,3,none⟩=some (.int .i64 Ob):=(ja ya.out 3).trans rfl;have H9:wc.cell? ⟨Ga,4,none⟩=some (.int .i64 oc):=(ja ya.out 4).trans rfl;have G9:wc.cell? ⟨Ga,5,none⟩=some (.int .i64 Yc):=(ja ya.out 5).trans rfl;have F9:wc.cell? ⟨Ga,6,none⟩=some (.string Dd):=(ja ya.out 6).trans rfl;have B7:=aa ya.out 0;have y7:=aa ya.out 1;have o7:=aa ya.out 2;have n7:=aa ya.out 3;have l7:=aa ya.out 4;have k7:=aa ya.out 5;have j7:=aa ya.out 6;go_wp2;go_ret;exact ⟨by first|rfl|(simp [Na,Ma] <;> rfl)|(simp [*,Na,Ma] <;> rfl),by repeat (first|(with_reducible first|exact HB.out|apply oa|apply ia|apply qa|refine ua ?_ Sa.out|refine ua ?_ qc.out)|exact HB.out)⟩
end Go.Proofs.Ytoomcmaifgkkfaa.P
end
